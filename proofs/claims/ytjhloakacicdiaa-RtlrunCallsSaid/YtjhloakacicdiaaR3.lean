/-
  What the functions of rtlrun compute, told by a plain interpreter; it holds of programs that pass the check of right form and are light.
-/
import Derived.Carry
import Derived.ProofKit
import Derived.Test.YtjhloakacicdiaaChecked
import Derived.Test.YtjhloakacicdiaaR1
import Derived.Test.YtjhloakacicdiaaR2
import Derived.Test.YtjhloakacicdiaaS2
set_option linter.unusedVariables false
set_option linter.unusedSimpArgs false
namespace Go.Proofs.Ytjhloakacicdiaa
open Go.AH
attribute [local irreducible] W RS
set_option maxHeartbeats 4000000 in
set_option maxRecDepth 100000 in
theorem calls29a_te (B : Hp) (pb fb fo : Nat) (hpb : pb < B.n) (hfb : fb < B.n) (hd : ∀ i b, B.m i = some b → i < B.n) (p : ProgS) (pe : TypeId) (P1 : Option Addr) (d1 : Nat) (P2 : Option Addr) (d2 : Nat) (hp : ProgAt B pb p pe P1 d1 P2 d2) (s : RunS) (hlk : s.leaks.length + 1 ≤ 1000000000) (regs at_ : List Int) (hrl : regs.length ≤ 1000000000) (x : InsS) (xb xo : Nat) (xcs : List Value) (xe : TypeId) (A : Option Addr) (c : Nat) (hX : B.m xb = some ⟨⟨xcs⟩, xe⟩) (hXn : xb < B.n) (hXl : xo + 12 ≤ xcs.length) (hXv : takeV xo 12 xcs = insC x A c) (hop : x.op = 29)
    (k : Int) (hk : k = IntKind.i64.wrap (argS regs x.a - 4194304)) (q : Int) (hq : q = IntKind.i64.wrap ((IntKind.i64.wrap (argS regs x.a - 4194304)).tdiv 16)) (hb : k < 0) :
    TE Try.prog 71 B 8 [0, 3, 4, 5, 6] (fun π => [.pointer (some ⟨π 0, 0, none⟩), .pointer (some ⟨π 5, 0, none⟩), .pointer (some ⟨xb, xo, none⟩)]) (frL pb fb fo s regs at_) (.int .i64 0) (frL pb fb fo (stopS (leakS s ⟨4, argS regs x.a, 0⟩) 43) regs at_) := by
  refine TE.intro (fn := Try.f71) (c := (Try.f71.body.getD .skip)) Try.func71 (by kernel_rfl) Try.ntmps71 (fun π => by kernel_rfl) (fun π => ⟨⟨_, rfl⟩, ⟨_, rfl⟩, ⟨_, rfl⟩, ⟨_, rfl⟩, ⟨_, rfl⟩, trivial⟩) (fr_par _ _ _ hpb hfb (by omega)) (by simp) fun π => ?_
  conv => arg 2; whnf
  repeat (first | ((with_reducible apply RS.buildSlice); exact rfl; exact rfl; exact rfl; exact rfl; exact rfl; exact rfl; exact rfl; exact rfl) | ((with_reducible apply RS.load1B); exact rfl; exact rfl; exact rfl; exact hX; exact hXn; (first | exact take_nth (j := 0) hXv rfl | exact take_nth (j := 9) hXv rfl | exact take_nth (j := 11) hXv rfl)) | ((with_reducible apply RS.loadNB); exact rfl; exact rfl; exact rfl; exact hX; exact hXn; omega; exact takeV_sub (j := 2) (n := 2) hXv (by omega)) | ((with_reducible apply RS.callR false [5, 6]); exact rfl; exact rfl; exact rfl; exact fun H hH => arg_tf x.a regs _ _ _ H hrl (hH.l 5 rfl (by simp)) rfl (hH.l 6 rfl (by simp)); exact Nm_free (by simp)) | ((with_reducible apply (RS.appendRow (w := leakW) (l0 := s.leaks) (q := ⟨4, argS regs x.a, 0⟩))); exact rfl; exact rfl; exact rfl; exact rfl; exact rfl; exact rfl; exact rfl; exact rfl; exact rfl; exact rfl; exact rfl; exact Nat.le_of_ble_eq_true rfl; exact fun _ => rfl; exact rfl; omega; omega) | ((with_reducible apply (RS.callO (vs := []) [0, 1, 9, 3, 4] 0)); exact rfl; exact rfl; exact stop_to _ pb hpb (leakS s ⟨4, argS regs x.a, 0⟩) 43; exact rfl; exact rfl; exact ⟨rfl, rfl, rfl, rfl, rfl, trivial⟩; exact stop_fresh _ _ _ _) | ((with_reducible apply RS.nilCheck); exact rfl; exact rfl; exact rfl) | ((with_reducible apply RS.move); exact rfl; exact rfl; exact rfl) | ((with_reducible apply RS.assign); exact rfl; exact rfl; exact rfl) | ((with_reducible apply RS.pickT); exact rfl; exact rfl; exact rfl; exact rfl) | ((with_reducible apply RS.cmpT); exact rfl; exact rfl; exact rfl; exact rfl; (simp only [cmpP]; omega)) | ((with_reducible apply RS.bin); exact rfl; exact rfl; exact rfl; exact rfl; exact rfl) | ((with_reducible apply RS.fieldAddr); exact rfl; exact rfl; exact rfl) | ((with_reducible apply RS.load1); exact rfl; exact rfl; exact rfl; exact rfl; exact rfl; exact rfl) | ((with_reducible apply RS.store); exact rfl; exact rfl; exact rfl; exact rfl; exact rfl; exact Nat.le_of_ble_eq_true rfl; exact rfl; exact rfl; exact rfl) | ((with_reducible apply RS.build); exact rfl; exact rfl; exact rfl; exact rfl) | ((with_reducible apply RS.skip); exact rfl; exact rfl) | ((with_reducible apply RS.nil); exact mixed; kernel_rfl) | ((with_reducible apply W.seq)) | ((with_reducible apply W.reg); kernel_rfl) | ((with_reducible apply W.ret)) | ((with_reducible apply W.condT); kernel_rfl; exact rfl) | ((with_reducible apply thenK_n)) | ((with_reducible apply thenK_r)))
  exact endsK_ret _ (.cons (.tmp rfl) .nil) (by (refine AtE.mk [0, 1, 9, 3, 4, 5, 6, 7] rfl rfl rfl ?_ ?_ rfl <;> (repeat' (first | exact trivial | exact rfl | apply And.intro)); done))
set_option maxHeartbeats 4000000 in
set_option maxRecDepth 100000 in
theorem calls29b_te (B : Hp) (pb fb fo : Nat) (hpb : pb < B.n) (hfb : fb < B.n) (hd : ∀ i b, B.m i = some b → i < B.n) (p : ProgS) (pe : TypeId) (P1 : Option Addr) (d1 : Nat) (P2 : Option Addr) (d2 : Nat) (hp : ProgAt B pb p pe P1 d1 P2 d2) (s : RunS) (hlk : s.leaks.length + 1 ≤ 1000000000) (regs at_ : List Int) (hrl : regs.length ≤ 1000000000) (x : InsS) (xb xo : Nat) (xcs : List Value) (xe : TypeId) (A : Option Addr) (c : Nat) (hX : B.m xb = some ⟨⟨xcs⟩, xe⟩) (hXn : xb < B.n) (hXl : xo + 12 ≤ xcs.length) (hXv : takeV xo 12 xcs = insC x A c) (hop : x.op = 29)
    (k : Int) (hk : k = IntKind.i64.wrap (argS regs x.a - 4194304)) (q : Int) (hq : q = IntKind.i64.wrap ((IntKind.i64.wrap (argS regs x.a - 4194304)).tdiv 16)) (hb : 0 ≤ k) (hb2 : ¬ (IntKind.i64.wrap (argS regs x.a - 4194304)).tmod 16 = 0) :
    TE Try.prog 71 B 8 [0, 3, 4, 5, 6] (fun π => [.pointer (some ⟨π 0, 0, none⟩), .pointer (some ⟨π 5, 0, none⟩), .pointer (some ⟨xb, xo, none⟩)]) (frL pb fb fo s regs at_) (.int .i64 0) (frL pb fb fo (stopS (leakS s ⟨4, argS regs x.a, 0⟩) 43) regs at_) := by
  refine TE.intro (fn := Try.f71) (c := (Try.f71.body.getD .skip)) Try.func71 (by kernel_rfl) Try.ntmps71 (fun π => by kernel_rfl) (fun π => ⟨⟨_, rfl⟩, ⟨_, rfl⟩, ⟨_, rfl⟩, ⟨_, rfl⟩, ⟨_, rfl⟩, trivial⟩) (fr_par _ _ _ hpb hfb (by omega)) (by simp) fun π => ?_
  conv => arg 2; whnf
  repeat (first | ((with_reducible apply RS.buildSlice); exact rfl; exact rfl; exact rfl; exact rfl; exact rfl; exact rfl; exact rfl; exact rfl) | ((with_reducible apply RS.load1B); exact rfl; exact rfl; exact rfl; exact hX; exact hXn; (first | exact take_nth (j := 0) hXv rfl | exact take_nth (j := 9) hXv rfl | exact take_nth (j := 11) hXv rfl)) | ((with_reducible apply RS.rem); exact rfl; exact rfl; exact rfl; exact rfl; omega) | ((with_reducible apply RS.loadNB); exact rfl; exact rfl; exact rfl; exact hX; exact hXn; omega; exact takeV_sub (j := 2) (n := 2) hXv (by omega)) | ((with_reducible apply RS.callR false [5, 6]); exact rfl; exact rfl; exact rfl; exact fun H hH => arg_tf x.a regs _ _ _ H hrl (hH.l 5 rfl (by simp)) rfl (hH.l 6 rfl (by simp)); exact Nm_free (by simp)) | ((with_reducible apply (RS.appendRow (w := leakW) (l0 := s.leaks) (q := ⟨4, argS regs x.a, 0⟩))); exact rfl; exact rfl; exact rfl; exact rfl; exact rfl; exact rfl; exact rfl; exact rfl; exact rfl; exact rfl; exact rfl; exact Nat.le_of_ble_eq_true rfl; exact fun _ => rfl; exact rfl; omega; omega) | ((with_reducible apply (RS.callO (vs := []) [0, 1, 9, 3, 4] 0)); exact rfl; exact rfl; exact stop_to _ pb hpb (leakS s ⟨4, argS regs x.a, 0⟩) 43; exact rfl; exact rfl; exact ⟨rfl, rfl, rfl, rfl, rfl, trivial⟩; exact stop_fresh _ _ _ _) | ((with_reducible apply RS.nilCheck); exact rfl; exact rfl; exact rfl) | ((with_reducible apply RS.move); exact rfl; exact rfl; exact rfl) | ((with_reducible apply RS.assign); exact rfl; exact rfl; exact rfl) | ((with_reducible apply RS.pickT); exact rfl; exact rfl; exact rfl; exact rfl) | ((with_reducible apply RS.pickF); exact rfl; exact rfl; exact rfl; exact rfl) | ((with_reducible apply RS.cmpT); exact rfl; exact rfl; exact rfl; exact rfl; (simp only [cmpP]; omega)) | ((with_reducible apply RS.cmpF); exact rfl; exact rfl; exact rfl; exact rfl; (simp only [cmpN]; omega)) | ((with_reducible apply RS.bin); exact rfl; exact rfl; exact rfl; exact rfl; exact rfl) | ((with_reducible apply RS.fieldAddr); exact rfl; exact rfl; exact rfl) | ((with_reducible apply RS.load1); exact rfl; exact rfl; exact rfl; exact rfl; exact rfl; exact rfl) | ((with_reducible apply RS.store); exact rfl; exact rfl; exact rfl; exact rfl; exact rfl; exact Nat.le_of_ble_eq_true rfl; exact rfl; exact rfl; exact rfl) | ((with_reducible apply RS.build); exact rfl; exact rfl; exact rfl; exact rfl) | ((with_reducible apply RS.skip); exact rfl; exact rfl) | ((with_reducible apply RS.nil); exact mixed; kernel_rfl) | ((with_reducible apply W.seq)) | ((with_reducible apply W.reg); kernel_rfl) | ((with_reducible apply W.ret)) | ((with_reducible apply W.condT); kernel_rfl; exact rfl) | ((with_reducible apply thenK_n)) | ((with_reducible apply thenK_r)))
  exact endsK_ret _ (.cons (.tmp rfl) .nil) (by (refine AtE.mk [0, 1, 9, 3, 4, 5, 6, 7] rfl rfl rfl ?_ ?_ rfl <;> (repeat' (first | exact trivial | exact rfl | apply And.intro)); done))
set_option maxHeartbeats 4000000 in
set_option maxRecDepth 100000 in
theorem calls29c_te (B : Hp) (pb fb fo : Nat) (hpb : pb < B.n) (hfb : fb < B.n) (hd : ∀ i b, B.m i = some b → i < B.n) (p : ProgS) (pe : TypeId) (P1 : Option Addr) (d1 : Nat) (P2 : Option Addr) (d2 : Nat) (hp : ProgAt B pb p pe P1 d1 P2 d2) (s : RunS) (hlk : s.leaks.length + 1 ≤ 1000000000) (regs at_ : List Int) (hrl : regs.length ≤ 1000000000) (x : InsS) (xb xo : Nat) (xcs : List Value) (xe : TypeId) (A : Option Addr) (c : Nat) (hX : B.m xb = some ⟨⟨xcs⟩, xe⟩) (hXn : xb < B.n) (hXl : xo + 12 ≤ xcs.length) (hXv : takeV xo 12 xcs = insC x A c) (hop : x.op = 29)
    (k : Int) (hk : k = IntKind.i64.wrap (argS regs x.a - 4194304)) (q : Int) (hq : q = IntKind.i64.wrap ((IntKind.i64.wrap (argS regs x.a - 4194304)).tdiv 16)) (hb : 0 ≤ k) (hb2 : (IntKind.i64.wrap (argS regs x.a - 4194304)).tmod 16 = 0) (hb3 : (p.funcs.length : Int) ≤ q) :
    TE Try.prog 71 B 8 [0, 3, 4, 5, 6] (fun π => [.pointer (some ⟨π 0, 0, none⟩), .pointer (some ⟨π 5, 0, none⟩), .pointer (some ⟨xb, xo, none⟩)]) (frL pb fb fo s regs at_) (.int .i64 0) (frL pb fb fo (stopS (leakS s ⟨4, argS regs x.a, 0⟩) 43) regs at_) := by
  refine TE.intro (fn := Try.f71) (c := (Try.f71.body.getD .skip)) Try.func71 (by kernel_rfl) Try.ntmps71 (fun π => by kernel_rfl) (fun π => ⟨⟨_, rfl⟩, ⟨_, rfl⟩, ⟨_, rfl⟩, ⟨_, rfl⟩, ⟨_, rfl⟩, trivial⟩) (fr_par _ _ _ hpb hfb (by omega)) (by simp) fun π => ?_
  conv => arg 2; whnf
  repeat (first | ((with_reducible apply RS.buildSlice); exact rfl; exact rfl; exact rfl; exact rfl; exact rfl; exact rfl; exact rfl; exact rfl) | ((with_reducible apply RS.load1B); exact rfl; exact rfl; exact rfl; exact hX; exact hXn; (first | exact take_nth (j := 0) hXv rfl | exact take_nth (j := 9) hXv rfl | exact take_nth (j := 11) hXv rfl)) | ((with_reducible apply RS.quo); exact rfl; exact rfl; exact rfl; exact rfl; omega) | ((with_reducible apply RS.rem); exact rfl; exact rfl; exact rfl; exact rfl; omega) | ((with_reducible apply RS.loadNB); exact rfl; exact rfl; exact rfl; exact hX; exact hXn; omega; exact takeV_sub (j := 2) (n := 2) hXv (by omega)) | ((with_reducible apply RS.callR false [5, 6]); exact rfl; exact rfl; exact rfl; exact fun H hH => arg_tf x.a regs _ _ _ H hrl (hH.l 5 rfl (by simp)) rfl (hH.l 6 rfl (by simp)); exact Nm_free (by simp)) | ((with_reducible apply (RS.appendRow (w := leakW) (l0 := s.leaks) (q := ⟨4, argS regs x.a, 0⟩))); exact rfl; exact rfl; exact rfl; exact rfl; exact rfl; exact rfl; exact rfl; exact rfl; exact rfl; exact rfl; exact rfl; exact Nat.le_of_ble_eq_true rfl; exact fun _ => rfl; exact rfl; omega; omega) | ((with_reducible apply RS.load1B); exact rfl; exact rfl; exact rfl; exact hp.m; exact hpb; exact rfl) | ((with_reducible apply (RS.callO (vs := []) [0, 1, 9, 3, 4] 0)); exact rfl; exact rfl; exact stop_to _ pb hpb (leakS s ⟨4, argS regs x.a, 0⟩) 43; exact rfl; exact rfl; exact ⟨rfl, rfl, rfl, rfl, rfl, trivial⟩; exact stop_fresh _ _ _ _) | ((with_reducible apply RS.nilCheck); exact rfl; exact rfl; exact rfl) | ((with_reducible apply RS.move); exact rfl; exact rfl; exact rfl) | ((with_reducible apply RS.assign); exact rfl; exact rfl; exact rfl) | ((with_reducible apply RS.pickF); exact rfl; exact rfl; exact rfl; exact rfl) | ((with_reducible apply RS.cmpT); exact rfl; exact rfl; exact rfl; exact rfl; (simp only [cmpP]; omega)) | ((with_reducible apply RS.cmpF); exact rfl; exact rfl; exact rfl; exact rfl; (simp only [cmpN]; omega)) | ((with_reducible apply RS.bin); exact rfl; exact rfl; exact rfl; exact rfl; exact rfl) | ((with_reducible apply RS.lenSl); exact rfl; exact rfl; exact rfl) | ((with_reducible apply RS.fieldAddr); exact rfl; exact rfl; exact rfl) | ((with_reducible apply RS.load1); exact rfl; exact rfl; exact rfl; exact rfl; exact rfl; exact rfl) | ((with_reducible apply RS.store); exact rfl; exact rfl; exact rfl; exact rfl; exact rfl; exact Nat.le_of_ble_eq_true rfl; exact rfl; exact rfl; exact rfl) | ((with_reducible apply RS.build); exact rfl; exact rfl; exact rfl; exact rfl) | ((with_reducible apply RS.nil); exact mixed; kernel_rfl) | ((with_reducible apply W.seq)) | ((with_reducible apply W.reg); kernel_rfl) | ((with_reducible apply W.ret)) | ((with_reducible apply W.condT); kernel_rfl; exact rfl) | ((with_reducible apply thenK_n)) | ((with_reducible apply thenK_r)))
  exact endsK_ret _ (.cons (.tmp rfl) .nil) (by (refine AtE.mk [0, 1, 9, 3, 4, 5, 6, 7] rfl rfl rfl ?_ ?_ rfl <;> (repeat' (first | exact trivial | exact rfl | apply And.intro)); done))
set_option maxHeartbeats 4000000 in
set_option maxRecDepth 100000 in
theorem calls29d_te (B : Hp) (pb fb fo : Nat) (hpb : pb < B.n) (hfb : fb < B.n) (hd : ∀ i b, B.m i = some b → i < B.n) (p : ProgS) (pe : TypeId) (P1 : Option Addr) (d1 : Nat) (P2 : Option Addr) (d2 : Nat) (hp : ProgAt B pb p pe P1 d1 P2 d2) (s : RunS) (hlk : s.leaks.length + 1 ≤ 1000000000) (regs at_ : List Int) (hrl : regs.length ≤ 1000000000) (x : InsS) (xb xo : Nat) (xcs : List Value) (xe : TypeId) (A : Option Addr) (c : Nat) (hX : B.m xb = some ⟨⟨xcs⟩, xe⟩) (hXn : xb < B.n) (hXl : xo + 12 ≤ xcs.length) (hXv : takeV xo 12 xcs = insC x A c) (hop : x.op = 29)
    (k : Int) (hk : k = IntKind.i64.wrap (argS regs x.a - 4194304)) (q : Int) (hq : q = IntKind.i64.wrap ((IntKind.i64.wrap (argS regs x.a - 4194304)).tdiv 16))  (hb : 0 ≤ k) (hb2 : (IntKind.i64.wrap (argS regs x.a - 4194304)).tmod 16 = 0) (qn : Nat) (hqi : IntKind.i64.wrap ((IntKind.i64.wrap (argS regs x.a - 4194304)).tdiv 16) = (qn : Int)) (hb3 : qn < p.funcs.length) (gb go : Nat) (hP1 : P1 = some ⟨gb, go, none⟩) (g : FuncS) (fcs : List Value) (fe : TypeId) (F1 : Option Addr) (c1 : Nat) (F2 : Option Addr) (c2 : Nat) (F3 : Option Addr) (c3 : Nat) (hF : B.m gb = some ⟨⟨fcs⟩, fe⟩) (hFn : gb < B.n) (hFv : takeV (go + qn * 6) 6 fcs = funcC g F1 c1 F2 c2 F3 c3) (hne : ¬ g.params = x.args.length) :
    TE Try.prog 71 B 8 [0, 3, 4, 5, 6] (fun π => [.pointer (some ⟨π 0, 0, none⟩), .pointer (some ⟨π 5, 0, none⟩), .pointer (some ⟨xb, xo, none⟩)]) (frL pb fb fo s regs at_) (.int .i64 0) (frL pb fb fo (stopS (leakS s ⟨4, argS regs x.a, 0⟩) 43) regs at_) := by
  refine TE.intro (fn := Try.f71) (c := (Try.f71.body.getD .skip)) Try.func71 (by kernel_rfl) Try.ntmps71 (fun π => by kernel_rfl) (fun π => ⟨⟨_, rfl⟩, ⟨_, rfl⟩, ⟨_, rfl⟩, ⟨_, rfl⟩, ⟨_, rfl⟩, trivial⟩) (fr_par _ _ _ hpb hfb (by omega)) (by simp) fun π => ?_
  subst hP1
  conv => arg 2; whnf
  repeat (first | ((with_reducible apply RS.buildSlice); exact rfl; exact rfl; exact rfl; exact rfl; exact rfl; exact rfl; exact rfl; exact rfl) | ((with_reducible apply RS.load1B); exact rfl; exact rfl; exact rfl; exact hX; exact hXn; (first | exact take_nth (j := 0) hXv rfl | exact take_nth (j := 9) hXv rfl | exact take_nth (j := 11) hXv rfl)) | ((with_reducible apply RS.quo); exact rfl; exact rfl; exact rfl; exact rfl; omega) | ((with_reducible apply RS.rem); exact rfl; exact rfl; exact rfl; exact rfl; omega) | ((with_reducible apply RS.loadNB); exact rfl; exact rfl; exact rfl; exact hX; exact hXn; omega; exact takeV_sub (j := 2) (n := 2) hXv (by omega)) | ((with_reducible apply RS.callR false [5, 6]); exact rfl; exact rfl; exact rfl; exact fun H hH => arg_tf x.a regs _ _ _ H hrl (hH.l 5 rfl (by simp)) rfl (hH.l 6 rfl (by simp)); exact Nm_free (by simp)) | ((with_reducible apply (RS.appendRow (w := leakW) (l0 := s.leaks) (q := ⟨4, argS regs x.a, 0⟩))); exact rfl; exact rfl; exact rfl; exact rfl; exact rfl; exact rfl; exact rfl; exact rfl; exact rfl; exact rfl; exact rfl; exact Nat.le_of_ble_eq_true rfl; exact fun _ => rfl; exact rfl; omega; omega) | ((with_reducible apply RS.load1B); exact rfl; exact rfl; exact rfl; exact hp.m; exact hpb; exact rfl) | ((with_reducible apply RS.load1B); exact rfl; exact rfl; exact rfl; exact hF; exact hFn; exact take_nth (j := 1) hFv rfl) | ((with_reducible apply RS.indexAddrS); exact rfl; exact rfl; exact rfl; exact rfl; exact hqi; omega) | ((with_reducible apply (RS.callO (vs := []) [0, 1, 9, 3, 4] 0)); exact rfl; exact rfl; exact stop_to _ pb hpb (leakS s ⟨4, argS regs x.a, 0⟩) 43; exact rfl; exact rfl; exact ⟨rfl, rfl, rfl, rfl, rfl, trivial⟩; exact stop_fresh _ _ _ _) | ((with_reducible apply RS.nilCheck); exact rfl; exact rfl; exact rfl) | ((with_reducible apply RS.move); exact rfl; exact rfl; exact rfl) | ((with_reducible apply RS.assign); exact rfl; exact rfl; exact rfl) | ((with_reducible apply RS.pickF); exact rfl; exact rfl; exact rfl; exact rfl) | ((with_reducible apply RS.cmpT); exact rfl; exact rfl; exact rfl; exact rfl; (simp only [cmpP]; omega)) | ((with_reducible apply RS.cmpF); exact rfl; exact rfl; exact rfl; exact rfl; (simp only [cmpN]; omega)) | ((with_reducible apply RS.bin); exact rfl; exact rfl; exact rfl; exact rfl; exact rfl) | ((with_reducible apply RS.lenSl); exact rfl; exact rfl; exact rfl) | ((with_reducible apply RS.fieldAddr); exact rfl; exact rfl; exact rfl) | ((with_reducible apply RS.load1); exact rfl; exact rfl; exact rfl; exact rfl; exact rfl; exact rfl) | ((with_reducible apply RS.store); exact rfl; exact rfl; exact rfl; exact rfl; exact rfl; exact Nat.le_of_ble_eq_true rfl; exact rfl; exact rfl; exact rfl) | ((with_reducible apply RS.build); exact rfl; exact rfl; exact rfl; exact rfl) | ((with_reducible apply RS.nil); exact mixed; kernel_rfl) | ((with_reducible apply W.seq)) | ((with_reducible apply W.reg); kernel_rfl) | ((with_reducible apply W.ret)) | ((with_reducible apply W.skip)) | ((with_reducible apply W.condT); kernel_rfl; exact rfl) | ((with_reducible apply W.condF); kernel_rfl; exact rfl) | ((with_reducible apply thenK_n)) | ((with_reducible apply thenK_r)))
  exact endsK_ret _ (.cons (.tmp rfl) .nil) (by (refine AtE.mk [0, 1, 9, 3, 4, 5, 6, 7] rfl rfl rfl ?_ ?_ rfl <;> (repeat' (first | exact trivial | exact rfl | apply And.intro)); done))
set_option maxHeartbeats 4000000 in
set_option maxRecDepth 100000 in
theorem calls29e_te (B : Hp) (pb fb fo : Nat) (hpb : pb < B.n) (hfb : fb < B.n) (hd : ∀ i b, B.m i = some b → i < B.n) (p : ProgS) (pe : TypeId) (P1 : Option Addr) (d1 : Nat) (P2 : Option Addr) (d2 : Nat) (hp : ProgAt B pb p pe P1 d1 P2 d2) (s : RunS) (hlk : s.leaks.length + 1 ≤ 1000000000) (regs at_ : List Int) (hrl : regs.length ≤ 1000000000) (x : InsS) (xb xo : Nat) (xcs : List Value) (xe : TypeId) (A : Option Addr) (c : Nat) (hX : B.m xb = some ⟨⟨xcs⟩, xe⟩) (hXn : xb < B.n) (hXl : xo + 12 ≤ xcs.length) (hXv : takeV xo 12 xcs = insC x A c) (hop : x.op = 29)
    (k : Int) (hk : k = IntKind.i64.wrap (argS regs x.a - 4194304)) (q : Int) (hq : q = IntKind.i64.wrap ((IntKind.i64.wrap (argS regs x.a - 4194304)).tdiv 16))  (hb : 0 ≤ k) (hb2 : (IntKind.i64.wrap (argS regs x.a - 4194304)).tmod 16 = 0) (qn : Nat) (hqi : IntKind.i64.wrap ((IntKind.i64.wrap (argS regs x.a - 4194304)).tdiv 16) = (qn : Int)) (hb3 : qn < p.funcs.length) (gb go : Nat) (hP1 : P1 = some ⟨gb, go, none⟩) (g : FuncS) (fcs : List Value) (fe : TypeId) (F1 : Option Addr) (c1 : Nat) (F2 : Option Addr) (c2 : Nat) (F3 : Option Addr) (c3 : Nat) (hF : B.m gb = some ⟨⟨fcs⟩, fe⟩) (hFn : gb < B.n) (hFv : takeV (go + qn * 6) 6 fcs = funcC g F1 c1 F2 c2 F3 c3) (hne : g.params = x.args.length) (hA : SlAt B A 2 x.args argR) (hal : x.args.length ≤ 1000000) (cl : RunS → Int → List Int → Int × RunS) (hcl : CallTE B pb cl (leakS s ⟨4, argS regs x.a, 0⟩) q (accV regs x.args x.args.length)) :
    TE Try.prog 71 B 8 [0, 3, 4, 5, 6] (fun π => [.pointer (some ⟨π 0, 0, none⟩), .pointer (some ⟨π 5, 0, none⟩), .pointer (some ⟨xb, xo, none⟩)]) (frL pb fb fo s regs at_) (.int .i64 (cl (leakS s ⟨4, argS regs x.a, 0⟩) q (accV regs x.args x.args.length)).1) (frL pb fb fo (cl (leakS s ⟨4, argS regs x.a, 0⟩) q (accV regs x.args x.args.length)).2 regs at_) := by
  refine TE.intro (fn := Try.f71) (c := (Try.f71.body.getD .skip)) Try.func71 (by kernel_rfl) Try.ntmps71 (fun π => by kernel_rfl) (fun π => ⟨⟨_, rfl⟩, ⟨_, rfl⟩, ⟨_, rfl⟩, ⟨_, rfl⟩, ⟨_, rfl⟩, trivial⟩) (fr_par _ _ _ hpb hfb (by omega)) (by simp) fun π => ?_
  subst hP1
  subst hq
  conv => arg 2; whnf
  repeat (first | ((with_reducible apply RS.buildSlice); exact rfl; exact rfl; exact rfl; exact rfl; exact rfl; exact rfl; exact rfl; exact rfl) | ((with_reducible apply RS.load1B); exact rfl; exact rfl; exact rfl; exact hX; exact hXn; (first | exact take_nth (j := 0) hXv rfl | exact take_nth (j := 9) hXv rfl | exact take_nth (j := 11) hXv rfl)) | ((with_reducible apply RS.quo); exact rfl; exact rfl; exact rfl; exact rfl; omega) | ((with_reducible apply RS.rem); exact rfl; exact rfl; exact rfl; exact rfl; omega) | ((with_reducible apply RS.loadNB); exact rfl; exact rfl; exact rfl; exact hX; exact hXn; omega; exact takeV_sub (j := 2) (n := 2) hXv (by omega)) | ((with_reducible apply RS.callR false [5, 6]); exact rfl; exact rfl; exact rfl; exact fun H hH => arg_tf x.a regs _ _ _ H hrl (hH.l 5 rfl (by simp)) rfl (hH.l 6 rfl (by simp)); exact Nm_free (by simp)) | ((with_reducible apply (RS.appendRow (w := leakW) (l0 := s.leaks) (q := ⟨4, argS regs x.a, 0⟩))); exact rfl; exact rfl; exact rfl; exact rfl; exact rfl; exact rfl; exact rfl; exact rfl; exact rfl; exact rfl; exact rfl; exact Nat.le_of_ble_eq_true rfl; exact fun _ => rfl; exact rfl; omega; omega) | ((with_reducible apply RS.load1B); exact rfl; exact rfl; exact rfl; exact hp.m; exact hpb; exact rfl) | ((with_reducible apply RS.load1B); exact rfl; exact rfl; exact rfl; exact hF; exact hFn; exact take_nth (j := 1) hFv rfl) | ((with_reducible apply RS.indexAddrS); exact rfl; exact rfl; exact rfl; exact rfl; exact hqi; omega) | ((with_reducible apply RS.nilCheck); exact rfl; exact rfl; exact rfl) | ((with_reducible apply RS.move); exact rfl; exact rfl; exact rfl) | ((with_reducible apply RS.assign); exact rfl; exact rfl; exact rfl) | ((with_reducible apply RS.pickF); exact rfl; exact rfl; exact rfl; exact rfl) | ((with_reducible apply RS.cmpT); exact rfl; exact rfl; exact rfl; exact rfl; (simp only [cmpP]; omega)) | ((with_reducible apply RS.cmpF); exact rfl; exact rfl; exact rfl; exact rfl; (simp only [cmpN]; omega)) | ((with_reducible apply RS.bin); exact rfl; exact rfl; exact rfl; exact rfl; exact rfl) | ((with_reducible apply RS.lenSl); exact rfl; exact rfl; exact rfl) | ((with_reducible apply RS.fieldAddr); exact rfl; exact rfl; exact rfl) | ((with_reducible apply RS.load1); exact rfl; exact rfl; exact rfl; exact rfl; exact rfl; exact rfl) | ((with_reducible apply RS.store); exact rfl; exact rfl; exact rfl; exact rfl; exact rfl; exact Nat.le_of_ble_eq_true rfl; exact rfl; exact rfl; exact rfl) | ((with_reducible apply RS.build); exact rfl; exact rfl; exact rfl; exact rfl) | ((with_reducible apply RS.nil); exact mixed; kernel_rfl) | ((with_reducible apply W.seq)) | ((with_reducible apply W.reg); kernel_rfl) | ((with_reducible apply W.block)) | ((with_reducible apply W.skip)) | ((with_reducible apply W.condT); kernel_rfl; exact rfl) | ((with_reducible apply W.condF); kernel_rfl; exact rfl) | ((with_reducible apply thenK_n)))
  refine W.ghost ?_
  refine W.loopP (X := Nat) (fun π i => [(0, .pointer (some ⟨π 0, 0, none⟩)), (1, .pointer (some ⟨π 5, 0, none⟩)), (7, .int .i64 (IntKind.i64.wrap ((IntKind.i64.wrap (argS regs x.a - 4194304)).tdiv 16))), (89, .slice A x.args.length c), (90, .int .i64 x.args.length), (91, .int .i64 i), (10, rowVl 1 (π 8) (accV regs x.args i))]) (fun _ => B) (fun π i => arL pb fb fo (leakS s ⟨4, argS regs x.a, 0⟩) regs at_ (accV regs x.args i) π) (fun π' i => EqK π' π [0, 3, 4, 5, 6] ∧ i ≤ x.args.length) (fun i => x.args.length - i) [0, 1, 9, 3, 4, 5, 6, 7, 10] 0 ⟨⟨rfl, rfl, rfl, rfl, rfl, trivial⟩, Nat.zero_le _⟩ (by (refine FitL.mk ?_ ?_ ?_ ?_ <;> (repeat' (first | exact trivial | exact rfl | (refine AllB.opt rfl rfl ?_) | apply And.intro)); done)) ?_
  rintro π' i ⟨hE, hI⟩
  dsimp only at hI ⊢
  by_cases hlt : i < x.args.length
  · have hg : x.args[i]? = some (x.args.getD i ⟨0, 0⟩) := by rw [List.getD_eq_getElem?_getD, List.getElem?_eq_getElem hlt]; rfl
    obtain ⟨gb, go, gcs, ge, rfl, hG, hGl, hGv⟩ := hA.get _ _ hg
    have hGn := hd _ _ hG
    repeat (first | ((with_reducible apply RS.buildSlice); exact rfl; exact rfl; exact rfl; exact rfl; exact rfl; exact rfl; exact rfl; exact rfl) | ((with_reducible apply RS.indexAddrS); exact rfl; exact rfl; exact rfl; exact rfl; exact rfl; omega) | ((with_reducible apply RS.loadNB); exact rfl; exact rfl; exact rfl; exact hG; exact hGn; exact hGl; exact hGv) | ((with_reducible apply RS.callR false [5, 6]); exact rfl; exact rfl; exact rfl; exact fun H hH => arg_tf (x.args.getD i ⟨0, 0⟩) regs _ _ _ H hrl (hH.l 5 rfl (by simp)) rfl (hH.l 6 rfl (by simp)); exact Nm_free (by simp)) | ((with_reducible apply (RS.appendRow (w := intW) (l0 := accV regs x.args i) (q := argS regs (x.args.getD i ⟨0, 0⟩)))); exact rfl; exact rfl; exact rfl; exact rfl; exact rfl; exact rfl; exact rfl; exact rfl; exact rfl; exact rfl; exact rfl; exact Nat.le_of_ble_eq_true rfl; exact fun _ => rfl; exact rfl; (rw [accV_len]; omega); (rw [accV_len]; omega)) | ((with_reducible apply RS.move); exact rfl; exact rfl; exact rfl) | ((with_reducible apply RS.assign); exact rfl; exact rfl; exact rfl) | ((with_reducible apply RS.cmpT); exact rfl; exact rfl; exact rfl; exact rfl; (simp only [cmpP]; omega)) | ((with_reducible apply RS.add1); exact rfl; exact rfl; exact rfl; exact rfl; omega) | ((with_reducible apply RS.loadN); exact rfl; exact rfl; exact rfl; exact rfl; exact rfl; exact Nat.le_of_ble_eq_true rfl) | ((with_reducible apply RS.store); exact rfl; exact rfl; exact rfl; exact rfl; exact rfl; exact Nat.le_of_ble_eq_true rfl; exact rfl; exact rfl; exact rfl) | ((with_reducible apply RS.alloc); exact rfl; exact rfl) | ((with_reducible apply RS.nil); exact mixed; kernel_rfl) | ((with_reducible apply W.seq)) | ((with_reducible apply W.reg); kernel_rfl) | ((with_reducible apply W.block)) | ((with_reducible apply W.skip)) | ((with_reducible apply W.condT); kernel_rfl; exact rfl) | ((with_reducible apply thenK_n)) | ((with_reducible apply blockK_n)))
    exact roundP_n (i + 1) [0, 1, 2, 3, 4, 5, 6, 7, 11] rfl rfl ⟨hE, by omega⟩ (by omega) (by (refine FitL.mk ?_ ?_ ?_ ?_ <;> (repeat' (first | exact trivial | exact rfl | (refine AllB.opt rfl rfl ?_) | apply And.intro)); done))
  · have hni : i = x.args.length := by omega
    subst hni
    repeat (first | ((with_reducible apply (RS.callE [0, 1, 2, 3, 4, 8] [0, 3, 4])); exact rfl; exact rfl; exact hcl; exact rfl; exact rfl; exact ⟨rfl, rfl, rfl, rfl, rfl, rfl, trivial⟩; intro π2 hπ2) | ((with_reducible apply RS.move); exact rfl; exact rfl; exact rfl) | ((with_reducible apply RS.assign); exact rfl; exact rfl; exact rfl) | ((with_reducible apply RS.cmpF); exact rfl; exact rfl; exact rfl; exact rfl; (simp only [cmpN]; omega)) | ((with_reducible apply RS.nil); exact mixed; kernel_rfl) | ((with_reducible apply W.seq)) | ((with_reducible apply W.reg); kernel_rfl) | ((with_reducible apply W.exit)) | ((with_reducible apply W.ret)) | ((with_reducible apply W.condF); kernel_rfl; exact rfl) | ((with_reducible apply thenK_n)) | ((with_reducible apply thenK_e)) | ((with_reducible apply blockK_hit); exact rfl) | ((with_reducible apply roundP_e)))
    have q : ∀ j, j ∈ [0, 3, 4, 5, 6] → j < 9 → (∀ i, nthL [0, 1, 2, 3, 4, 8] i = some j → i ∈ [0, 3, 4]) → π2 j = π j := fun j hm hj hk => (hπ2 j hj hk).trans (hE.get hm)
    exact endsK_ret _ (.cons (.tmp rfl) .nil) (by (refine AtE.mk [0, 1, 2, 3, 4, 5, 6, 7] rfl rfl rfl ?_ ?_ rfl <;> (repeat' (first | exact trivial | exact rfl | exact frame_eq (hπ2 6 (by decide) (keepE rfl)) (hπ2 7 (by decide) (keepE rfl)) | exact q _ (by simp) (by decide) (keepE rfl) | apply And.intro)); done))
end Go.Proofs.Ytjhloakacicdiaa
namespace Go.Proofs.Ytjhloakacicdiaa
open Go.AH
theorem wrap_fit {n : Int} (h : fitI n) : IntKind.i64.wrap n = n := wrap64_fit h.1 h.2
theorem fit_tdiv16 {k : Int} (h : fitI k) : fitI (k.tdiv 16) := by
  obtain ⟨h1, h2⟩ := h
  have e : (k.tdiv 16).natAbs = k.natAbs / 16 := by rw [Int.natAbs_tdiv]; rfl
  have : (k.tdiv 16).natAbs ≤ k.natAbs := by rw [e]; exact Nat.div_le_self _ _
  by_cases hk : k = -9223372036854775808
  · subst hk; exact ⟨by decide, by decide⟩
  · constructor <;> omega
theorem tdiv16_nn {k : Int} (h : 0 ≤ k) : 0 ≤ k.tdiv 16 := Int.tdiv_nonneg h (by omega)
theorem calls_te (B : Hp) (hd : ∀ i b, B.m i = some b → i < B.n) (p : ProgS) (pb : Nat) (pe : TypeId) (P1 : Option Addr) (d1 : Nat) (P2 : Option Addr) (d2 : Nat) (hp : ProgAt B pb p pe P1 d1 P2 d2) (fb fo : Nat) (hfb : fb < B.n) (f : FuncS) (s : RunS) (hlk : s.leaks.length + 1 ≤ 1000000000) (regs at_ : List Int)
    (hrl : regs.length ≤ 1000000000) (x : InsS) (hx : rightS p f x = true) (hop : x.op = 28 ∨ x.op = 29) (hal : x.args.length ≤ 1000000) (xb xo : Nat) (xcs : List Value) (xe : TypeId) (A : Option Addr) (c : Nat) (hX : B.m xb = some ⟨⟨xcs⟩, xe⟩) (hXl : xo + 12 ≤ xcs.length) (hXv : takeV xo 12 xcs = insC x A c) (hA : SlAt B A 2 x.args argR)
    (cl : RunS → Int → List Int → Int × RunS) (hcl : ∀ s' n args, (s' = s ∨ ∃ q, s' = leakS s q) → paramsAt p n = some (args.length : Int) → (∃ k, args = accV regs x.args k) → CallTE B pb cl s' n args) :
    TE Try.prog 71 B 8 [0, 3, 4, 5, 6] (fun π => [.pointer (some ⟨π 0, 0, none⟩), .pointer (some ⟨π 5, 0, none⟩), .pointer (some ⟨xb, xo, none⟩)]) (frL pb fb fo s regs at_) (.int .i64 (callsS p cl s regs x).1) (frL pb fb fo (callsS p cl s regs x).2 regs at_) := by
  have hpb := hd _ _ hp.m
  have hXn := hd _ _ hX
  unfold rightS at hx
  simp only [Bool.and_eq_true, decide_eq_true_eq] at hx
  obtain ⟨⟨⟨⟨⟨o1, o2⟩, oa⟩, od1⟩, od2⟩, ot⟩ := hx
  rcases hop with hop | hop
  · unfold rightT at ot
    rw [if_neg (by omega), if_neg (by omega), if_neg (by omega), if_neg (by omega), if_neg (by omega), if_pos hop] at ot
    simp only [beq_iff_eq] at ot
    have e : callsS p cl s regs x = cl s x.ref (accV regs x.args x.args.length) := by unfold callsS; rw [if_neg (by omega)]
    rw [e]
    exact calls28_te B pb fb fo hpb hfb hd s regs at_ hrl x xb xo xcs xe A c hX hXn hXl hXv hA hal hop cl (hcl s x.ref _ (.inl rfl) (by rw [accV_len]; exact ot) ⟨_, rfl⟩)
  · have hfk : fitI (placeAt (argS regs x.a)) := fit_i64 _
    have hfq : fitI ((placeAt (argS regs x.a)).tdiv 16) := fit_tdiv16 hfk
    unfold callsS
    rw [if_pos hop]
    by_cases h1 : placeAt (argS regs x.a) < 0
    · rw [if_pos (.inl h1)]
      exact calls29a_te B pb fb fo hpb hfb hd p pe P1 d1 P2 d2 hp s hlk regs at_ hrl x xb xo xcs xe A c hX hXn hXl hXv hop _ rfl _ rfl h1
    have h1' : 0 ≤ placeAt (argS regs x.a) := by omega
    by_cases h2 : ¬ (placeAt (argS regs x.a)).tmod 16 = 0
    · rw [if_pos (.inr (.inl h2))]
      exact calls29b_te B pb fb fo hpb hfb hd p pe P1 d1 P2 d2 hp s hlk regs at_ hrl x xb xo xcs xe A c hX hXn hXl hXv hop _ rfl _ rfl h1' h2
    have h2' : (placeAt (argS regs x.a)).tmod 16 = 0 := by omega
    by_cases h3 : (p.funcs.length : Int) ≤ funcAt (argS regs x.a)
    · rw [if_pos (.inr (.inr h3))]
      exact calls29c_te B pb fb fo hpb hfb hd p pe P1 d1 P2 d2 hp s hlk regs at_ hrl x xb xo xcs xe A c hX hXn hXl hXv hop _ rfl _ rfl h1' h2' h3
    rw [if_neg (fun h => h.elim h1 fun h => h.elim h2 h3)]
    have hq : funcAt (argS regs x.a) = (placeAt (argS regs x.a)).tdiv 16 := wrap_fit hfq
    have hq0 : 0 ≤ funcAt (argS regs x.a) := by rw [hq]; exact tdiv16_nn h1'
    obtain ⟨qn, hqn⟩ : ∃ n : Nat, funcAt (argS regs x.a) = n := ⟨_, (Int.toNat_of_nonneg hq0).symm⟩
    have hql : qn < p.funcs.length := by omega
    obtain ⟨g, hg⟩ : ∃ g, p.funcs[qn]? = some g := ⟨_, List.getElem?_eq_getElem hql⟩
    obtain ⟨gb, go, fcs, fe, hP1, hF, hFl, F1, c1, F2, c2, F3, c3, hFv, _⟩ := hp.fs.get _ _ hg
    have hpar : paramsAt p (funcAt (argS regs x.a)) = some g.params := by
      unfold paramsAt; rw [if_pos hq0, hqn]; simp [hg]
    rw [hpar]
    by_cases h4 : g.params = (x.args.length : Int)
    · rw [if_pos (by rw [h4])]
      exact calls29e_te B pb fb fo hpb hfb hd p pe P1 d1 P2 d2 hp s hlk regs at_ hrl x xb xo xcs xe A c hX hXn hXl hXv hop _ rfl _ rfl h1' h2' qn hqn hql gb go hP1 g fcs fe F1 c1 F2 c2 F3 c3 hF (hd _ _ hF) hFv h4 hA hal cl (hcl _ _ _ (.inr ⟨_, rfl⟩) (by rw [accV_len, ← h4]; exact hpar) ⟨_, rfl⟩)
    · rw [if_neg (fun h => h4 (by injection h))]
      exact calls29d_te B pb fb fo hpb hfb hd p pe P1 d1 P2 d2 hp s hlk regs at_ hrl x xb xo xcs xe A c hX hXn hXl hXv hop _ rfl _ rfl h1' h2' qn hqn hql gb go hP1 g fcs fe F1 c1 F2 c2 F3 c3 hF (hd _ _ hF) hFv h4
end Go.Proofs.Ytjhloakacicdiaa
namespace Go.Proofs.Ytjhloakacicdiaa
open Go.AH
attribute [local irreducible] W RS
def slotSz (z : Int) : Int := IntKind.i64.wrap ((BitVec.ofInt IntKind.i64.bits (IntKind.i64.wrap ((if 0 > z then 0 else z) + 7)) &&& ~~~(BitVec.ofInt IntKind.i64.bits 7)).toNat : Int)
def spAt (sp : Int) (sl : List Int) : Nat → Int
  | 0 => sp
  | i + 1 => IntKind.i64.wrap (spAt sp sl i - slotSz (sl.getD i 0))
def rowAt (sp : Int) (sl : List Int) : Nat → List Int
  | 0 => []
  | i + 1 => spAt sp sl (i + 1) :: rowAt sp sl i
theorem rowAt_len (sp : Int) (sl : List Int) : ∀ i, (rowAt sp sl i).length = i := by
  intro i
  induction i with
  | zero => rfl
  | succ i ih => rw [rowAt, List.length_cons, ih]
def regsS (f : FuncS) (args : List Int) : List Int := args.reverse ++ List.replicate (f.regs.toNat - args.length) 0
theorem setL_append : ∀ (vs cs : List Value) (i : Nat), vs.length + i ≤ cs.length → setL cs i vs = cs.take i ++ vs ++ cs.drop (i + vs.length) := by
  intro vs
  induction vs with
  | nil => intro cs i h; rw [setL_nil]; simp
  | cons v vs ih =>
    intro cs i h
    simp only [List.length_cons] at h
    rw [setL_cons, ih _ _ (by simp; omega)]
    have e : List.take (i + 1) (cs.set i v) = List.take i cs ++ [v] := by
      rw [List.take_add_one, List.take_set_of_le (by omega)]
      simp [List.getElem?_set]; omega
    rw [e, List.drop_set_of_lt (by omega)]; simp [Nat.add_assoc, Nat.add_comm 1]
theorem regs_copy {f : FuncS} {args : List Int} {n : Nat} (hn : f.regs = n) (ha : args.length ≤ n) : setL (repL [.int .i64 0] n) 0 (rowC intW args) = intsC (regsS f args) := by
  rw [repL_one, rowC_ints, setL_append _ _ _ (by simp; omega)]
  unfold regsS intsC
  rw [hn]
  simp
def cbL (pb fb fo m : Nat) (s : RunS) (args regs at_ : List Int) (π : Nat → Nat) : List (Nat × Option Blk) := [(0, some ⟨⟨runC pb s (π 1) (π 2) (π 3) (π 4)⟩, 87⟩), (1, rowBk intW 2 s.out), (2, rowBk leakW 90 s.leaks), (3, some ⟨⟨bytesC s.data⟩, 5⟩), (4, some ⟨⟨bytesC s.stack⟩, 5⟩), (5, rowBk intW 2 args), (6, some ⟨⟨intsC regs⟩, 2⟩), (7, some ⟨⟨[.pointer (some ⟨fb, fo, none⟩), (.slice (some ⟨π 6, 0, none⟩) m m), rowVl 1 (π 8) at_]⟩, 100⟩), (8, rowBk intW 2 at_)]
theorem ca_par {n K : Nat} {pb : Nat} (s : RunS) (args : List Int) (hp : pb < n) (hK : 6 ≤ K) : ParL n K (caL pb s args) 6 := by
  refine ⟨ParB_row (fun a v hv => ?_) args, run_par s hp (by omega)⟩
  simp only [intW, List.mem_cons, List.not_mem_nil, or_false] at hv
  subst hv; simp
def BlocksTE (B : Hp) (pb fb fo : Nat) (s : RunS) (regs at_ : List Int) (r : Int × RunS × List Int) : Prop :=
  TE Try.prog 48 B 8 [0, 3, 4, 5, 6] (fun π => [.pointer (some ⟨π 0, 0, none⟩), .pointer (some ⟨π 5, 0, none⟩)]) (frL pb fb fo s regs at_) (.int .i64 r.1) (frL pb fb fo r.2.1 r.2.2 at_)
theorem regsS_len {f : FuncS} {args : List Int} {n : Nat} (hn : f.regs = n) (ha : args.length ≤ n) : (regsS f args).length = n := by
  unfold regsS; simp [hn]; omega
def spDone (s : RunS) (f : FuncS) : RunS := { s with deep := s.deep + 1, sp := spAt s.sp f.slots f.slots.length }
theorem ints_one (args : List Int) : (rowC intW args).all (·.oneCell') = true := by
  rw [rowC_ints, List.all_map, List.all_eq_true]
  intro _ _; rfl
set_option maxHeartbeats 4000000 in
set_option maxRecDepth 100000 in
theorem call_te (B : Hp) (hd : ∀ i b, B.m i = some b → i < B.n) (p : ProgS) (pb : Nat) (hpb : pb < B.n) (pe : TypeId) (P1 : Option Addr) (d1 : Nat) (P2 : Option Addr) (d2 : Nat) (hp : ProgAt B pb p pe P1 d1 P2 d2) (s : RunS) (hdp : 0 ≤ s.deep ∧ s.deep + 1 ≤ 100) (qn : Nat) (n : Int) (hn : n = (qn : Int)) (hnl : qn < p.funcs.length) (args : List Int)
    (gb go : Nat) (hP1 : P1 = some ⟨gb, go, none⟩) (f : FuncS) (fcs : List Value) (fe : TypeId) (F1 : Option Addr) (c1 : Nat) (F2 : Option Addr) (c2 : Nat) (F3 : Option Addr) (c3 : Nat) (hF : B.m gb = some ⟨⟨fcs⟩, fe⟩) (hFn : gb < B.n) (hFv : takeV (go + qn * 6) 6 fcs = funcC f F1 c1 F2 c2 F3 c3) (hS : SlAt B F2 1 f.slots intR) (hsl : f.slots.length ≤ 1000000)
    (m : Nat) (hm : f.regs = (m : Int)) (hm2 : m ≤ 1000000) (hal : args.length ≤ m) (r : Int × RunS × List Int) (hlow : ¬ spAt s.sp f.slots f.slots.length < 134217728 - (s.stack.length : Int)) (hsk : s.stack.length ≤ 1000000) (hbl : BlocksTE B pb gb (go + qn * 6) (spDone s f) (regsS f args) (rowAt s.sp f.slots f.slots.length) r) (hrd : 0 ≤ r.2.1.deep ∧ r.2.1.deep ≤ 101) :
    TE Try.prog 35 B 6 [0, 3, 4] (fun π => [.pointer (some ⟨π 0, 0, none⟩), .int .i64 n, rowVl 1 (π 5) args]) (caL pb s args) (.int .i64 r.1) (caL pb { r.2.1 with sp := s.sp, deep := r.2.1.deep - 1 } args) := by
  subst hP1
  refine TE.intro (fn := Try.f35) (c := (Try.f35.body.getD .skip)) Try.func35 (by kernel_rfl) Try.ntmps35 (fun π => by kernel_rfl) (fun π => ⟨⟨_, rfl⟩, ⟨_, rfl⟩, ⟨_, rfl⟩, trivial⟩) (ca_par _ _ hpb (by omega)) (by simp) fun π => ?_
  conv => arg 2; whnf
  repeat (first | ((with_reducible apply RS.load1B); exact rfl; exact rfl; exact rfl; exact hp.m; exact hpb; exact rfl) | ((with_reducible apply RS.load1B); exact rfl; exact rfl; exact rfl; exact hF; exact hFn; (first | exact take_nth (j := 3) hFv rfl | exact take_nth (j := 4) hFv rfl)) | ((with_reducible apply RS.indexAddrS); exact rfl; exact rfl; exact rfl; exact rfl; exact hn; exact hnl) | ((with_reducible apply (RS.makeSlice (n := m) (kx := .i64) (ky := .i64) (cs := repL [.int .i64 0] m))); exact rfl; exact rfl; exact (show _ = some (Value.int IntKind.i64 (m : Int)) from congrArg (fun z => some (Value.int IntKind.i64 z)) hm); exact (show _ = some (Value.int IntKind.i64 (m : Int)) from congrArg (fun z => some (Value.int IntKind.i64 z)) hm); exact rfl; exact rfl; (constructor <;> omega); exact rfl) | ((with_reducible apply (RS.copyRow (w := intW) (l0 := args) (cs' := intsC (regsS f args)))); exact rfl; exact rfl; exact rfl; exact rfl; exact rfl; exact rfl; exact rfl; exact rfl; exact fun _ => rfl; exact hal; (rw [repL_one, List.length_replicate]; omega); exact ints_one args; exact regs_copy hm hal) | ((with_reducible apply RS.nilCheck); exact rfl; exact rfl; exact rfl) | ((with_reducible apply RS.move); exact rfl; exact rfl; exact rfl) | ((with_reducible apply RS.assign); exact rfl; exact rfl; exact rfl) | ((with_reducible apply RS.cmpF); exact rfl; exact rfl; exact rfl; exact rfl; (simp only [cmpN]; omega)) | ((with_reducible apply RS.binFit); exact rfl; exact rfl; exact rfl; exact rfl; exact rfl; omega) | ((with_reducible apply RS.lenSl); exact rfl; exact rfl; exact rfl) | ((with_reducible apply RS.fieldAddr); exact rfl; exact rfl; exact rfl) | ((with_reducible apply RS.load1); exact rfl; exact rfl; exact rfl; exact rfl; exact rfl; exact rfl) | ((with_reducible apply RS.store); exact rfl; exact rfl; exact rfl; exact rfl; exact rfl; exact Nat.le_of_ble_eq_true rfl; exact rfl; exact rfl; exact rfl) | ((with_reducible apply RS.box); exact rfl; exact rfl; exact rfl) | ((with_reducible apply RS.build); exact rfl; exact rfl; exact rfl; exact rfl) | ((with_reducible apply RS.nil); exact mixed; kernel_rfl) | ((with_reducible apply W.seq)) | ((with_reducible apply W.reg); kernel_rfl) | ((with_reducible apply W.block)) | ((with_reducible apply W.skip)) | ((with_reducible apply W.condF); kernel_rfl; exact rfl) | ((with_reducible apply thenK_n)))
  refine W.ghost ?_
  refine W.loopP (X := Nat) (fun π i => [(0, .pointer (some ⟨π 0, 0, none⟩)), (7, .pointer (some ⟨π 7, 0, none⟩)), (8, .int .i64 s.sp), (65, .slice F2 f.slots.length c2), (66, .int .i64 f.slots.length), (67, .int .i64 i)]) (fun _ => B) (fun π i => cbL pb gb (go + qn * 6) m { s with deep := s.deep + 1, sp := spAt s.sp f.slots i } args (regsS f args) (rowAt s.sp f.slots i) π) (fun π' i => EqUp π' π 6 ∧ i ≤ f.slots.length) (fun i => f.slots.length - i) [0, 1, 2, 3, 4, 5, 6, 7, 8] 0 ⟨⟨rfl, rfl, rfl, rfl, rfl, rfl, trivial⟩, Nat.zero_le _⟩ (by (refine FitL.mk ?_ ?_ ?_ ?_ <;> (repeat' (first | exact trivial | exact rfl | (refine AllB.opt rfl rfl ?_) | apply And.intro)); done)) ?_
  rintro π' i ⟨hE, hI⟩
  dsimp only at hI ⊢
  by_cases hlt : i < f.slots.length
  · have hg : f.slots[i]? = some (f.slots.getD i 0) := by rw [List.getD_eq_getElem?_getD, List.getElem?_eq_getElem hlt]; rfl
    obtain ⟨hb, ho, gcs, ge, rfl, hG, hGl, hGv⟩ := hS.get _ _ hg
    have hGn := hd _ _ hG
    repeat (first | ((with_reducible apply RS.load1B); exact rfl; exact rfl; exact rfl; exact hG; exact hGn; exact take_nth (j := 0) hGv rfl) | ((with_reducible apply RS.indexAddrS); exact rfl; exact rfl; exact rfl; exact rfl; exact rfl; omega) | ((with_reducible apply RS.maxI); exact rfl; exact rfl; exact rfl; exact rfl) | ((with_reducible apply RS.buildSlice); exact rfl; exact rfl; exact rfl; exact rfl; exact rfl; exact rfl; exact rfl; exact rfl) | ((with_reducible apply (RS.appendRow (w := intW) (l0 := rowAt s.sp f.slots i) (q := spAt s.sp f.slots (i + 1)))); exact rfl; exact rfl; exact rfl; exact rfl; exact rfl; exact rfl; exact rfl; exact rfl; exact rfl; exact rfl; exact rfl; exact Nat.le_of_ble_eq_true rfl; exact fun _ => rfl; exact rfl; (rw [rowAt_len]; omega); (rw [rowAt_len]; omega)) | ((with_reducible apply RS.nilCheck); exact rfl; exact rfl; exact rfl) | ((with_reducible apply RS.move); exact rfl; exact rfl; exact rfl) | ((with_reducible apply RS.assign); exact rfl; exact rfl; exact rfl) | ((with_reducible apply RS.cmpT); exact rfl; exact rfl; exact rfl; exact rfl; (simp only [cmpP]; omega)) | ((with_reducible apply RS.add1); exact rfl; exact rfl; exact rfl; exact rfl; omega) | ((with_reducible apply RS.bin); exact rfl; exact rfl; exact rfl; exact rfl; exact rfl) | ((with_reducible apply RS.fieldAddr); exact rfl; exact rfl; exact rfl) | ((with_reducible apply RS.load1); exact rfl; exact rfl; exact rfl; exact rfl; exact rfl; exact rfl) | ((with_reducible apply RS.store); exact rfl; exact rfl; exact rfl; exact rfl; exact rfl; exact Nat.le_of_ble_eq_true rfl; exact rfl; exact rfl; exact rfl) | ((with_reducible apply RS.nil); exact mixed; kernel_rfl) | ((with_reducible apply W.seq)) | ((with_reducible apply W.reg); kernel_rfl) | ((with_reducible apply W.block)) | ((with_reducible apply W.skip)) | ((with_reducible apply W.condT); kernel_rfl; exact rfl) | ((with_reducible apply thenK_n)) | ((with_reducible apply blockK_n)))
    exact roundP_n (i + 1) [0, 1, 2, 3, 4, 5, 6, 7, 10] rfl rfl ⟨hE, by omega⟩ (by omega) (by (refine FitL.mk ?_ ?_ ?_ ?_ <;> (repeat' (first | exact trivial | exact rfl | (refine AllB.opt rfl rfl ?_) | apply And.intro)); done))
  · have hni : i = f.slots.length := by omega
    subst hni
    repeat (first | ((with_reducible apply RS.binFit); exact rfl; exact rfl; exact rfl; exact rfl; exact rfl; (dsimp only; omega)) | ((with_reducible apply (RS.callE [0, 1, 2, 3, 4, 7, 6, 8] [0, 3, 4, 5, 6])); exact rfl; exact rfl; exact hbl; exact rfl; exact rfl; exact ⟨rfl, rfl, rfl, rfl, rfl, fr_set (regsS_len hm hal), rfl, rfl, trivial⟩; intro π2 hπ2; rw [← hπ2 0 (by decide) (keepE rfl)]) | ((with_reducible apply RS.nilCheck); exact rfl; exact rfl; exact rfl) | ((with_reducible apply RS.move); exact rfl; exact rfl; exact rfl) | ((with_reducible apply RS.assign); exact rfl; exact rfl; exact rfl) | ((with_reducible apply RS.cmpF); exact rfl; exact rfl; exact rfl; exact rfl; (simp only [cmpN]; omega)) | ((with_reducible apply RS.binFit); exact rfl; exact rfl; exact rfl; exact rfl; exact rfl; omega) | ((with_reducible apply RS.lenSl); exact rfl; exact rfl; exact rfl) | ((with_reducible apply RS.fieldAddr); exact rfl; exact rfl; exact rfl) | ((with_reducible apply RS.load1); exact rfl; exact rfl; exact rfl; exact rfl; exact rfl; exact rfl) | ((with_reducible apply RS.store); exact rfl; exact rfl; exact rfl; exact rfl; exact rfl; exact Nat.le_of_ble_eq_true rfl; exact rfl; exact rfl; exact rfl) | ((with_reducible apply RS.nil); exact mixed; kernel_rfl) | ((with_reducible apply W.seq)) | ((with_reducible apply W.reg); kernel_rfl) | ((with_reducible apply W.exit)) | ((with_reducible apply W.ret)) | ((with_reducible apply W.skip)) | ((with_reducible apply W.condF); kernel_rfl; exact rfl) | ((with_reducible apply thenK_n)) | ((with_reducible apply thenK_e)) | ((with_reducible apply blockK_hit); exact rfl) | ((with_reducible apply roundP_e)))
    exact endsK_ret _ (.cons (.tmp rfl) .nil) (by (refine AtE.mk [0, 1, 2, 3, 4, 5] rfl rfl rfl ?_ ?_ rfl <;> (repeat' (first | exact trivial | exact rfl | exact (hπ2 _ (by decide) (keepE rfl)).trans (hE.get (by decide)) | apply And.intro)); done))
end Go.Proofs.Ytjhloakacicdiaa
namespace Go.Proofs.Ytjhloakacicdiaa
open Go.AH
attribute [local irreducible] W RS
def runIns (ins : RunS → List Int → InsS → RunS × List Int) : List InsS → RunS → List Int → RunS × List Int
  | [], s, regs => (s, regs)
  | x :: l, s, regs => if (ins s regs x).1.fin = 0 then runIns ins l (ins s regs x).1 (ins s regs x).2 else ins s regs x
def leakB (yes : Bool) : LeakS := ⟨1, if yes = true then 1 else 0, 0⟩
def blocksS (ins : RunS → List Int → InsS → RunS × List Int) (f : FuncS) : Nat → Int → RunS → List Int → Int × RunS × List Int
  | 0, _, s, regs => (0, s, regs)
  | k + 1, bi, s, regs =>
    if s.fin = 0 then
      match f.blocks[bi.toNat]? with
      | none => (0, s, regs)
      | some b =>
        if (runIns ins b.ins s regs).1.fin = 0 then
          if (stepS (runIns ins b.ins s regs).1).fin = 0 then
            if b.term.kind = 3 then (argS (runIns ins b.ins s regs).2 b.term.a, stepS (runIns ins b.ins s regs).1, (runIns ins b.ins s regs).2)
            else if b.term.kind = 1 then blocksS ins f k b.term.goto (stepS (runIns ins b.ins s regs).1) (runIns ins b.ins s regs).2
            else if holdsS b.term.op (argS (runIns ins b.ins s regs).2 b.term.a) (argS (runIns ins b.ins s regs).2 b.term.b) = true then blocksS ins f k b.term.goto (leakS (stepS (runIns ins b.ins s regs).1) (leakB true)) (runIns ins b.ins s regs).2
            else blocksS ins f k b.term.els (leakS (stepS (runIns ins b.ins s regs).1) (leakB false)) (runIns ins b.ins s regs).2
          else (0, stepS (runIns ins b.ins s regs).1, (runIns ins b.ins s regs).2)
        else (0, (runIns ins b.ins s regs).1, (runIns ins b.ins s regs).2)
    else (0, s, regs)
structure Kept (s s' : RunS) : Prop where
  fuel : s'.fuel = s.fuel
  steps : s.steps ≤ s'.steps
  deep : (s'.deep = s.deep ∧ (¬ s.fin = 0 → ¬ s'.fin = 0)) ∨ (s.fin = 0 ∧ ¬ s'.fin = 0 ∧ s'.deep = s.deep + 1)
  sp : s'.sp = s.sp
  stack : s'.stack.length = s.stack.length
  data : s'.data.length = s.data.length
theorem Kept.refl (s : RunS) : Kept s s := ⟨rfl, by omega, .inl ⟨rfl, id⟩, rfl, rfl, rfl⟩
theorem Kept.trans {a b c : RunS} (h : Kept a b) (g : Kept b c) : Kept a c := ⟨g.fuel.trans h.fuel, by have := h.steps; have := g.steps; omega, by
  rcases h.deep with ⟨h1, h2⟩ | ⟨h1, h2, h3⟩ <;> rcases g.deep with ⟨g1, g2⟩ | ⟨g1, g2, g3⟩
  · exact .inl ⟨g1.trans h1, fun h => g2 (h2 h)⟩
  · exact .inr ⟨Decidable.byContradiction fun hc => h2 hc g1, g2, by rw [g3, h1]⟩
  · exact .inr ⟨h1, g2 h2, by rw [g1, h3]⟩
  · exact absurd g1 h2, g.sp.trans h.sp, g.stack.trans h.stack, g.data.trans h.data⟩
theorem stepS_kept (s : RunS) : Kept s (stepS s) := by
  unfold stepS
  split
  · split
    · exact ⟨rfl, by show s.steps ≤ s.steps; omega, .inl ⟨rfl, fun _ => by show ¬ (42 : Int) = 0; omega⟩, rfl, rfl, rfl⟩
    · exact ⟨rfl, by show s.steps ≤ s.steps + 1; omega, .inl ⟨rfl, id⟩, rfl, rfl, rfl⟩
  · exact Kept.refl s
theorem leakS_kept (s : RunS) (q : LeakS) : Kept s (leakS s q) := ⟨rfl, by show s.steps ≤ s.steps; omega, .inl ⟨rfl, id⟩, rfl, rfl, rfl⟩
theorem stopS_kept (s : RunS) (e : Int) (he : ¬ e = 0) : Kept s (stopS s e) := by
  unfold stopS
  split
  · exact ⟨rfl, by show s.steps ≤ s.steps; omega, .inl ⟨rfl, fun _ => he⟩, rfl, rfl, rfl⟩
  · exact Kept.refl s
theorem stepS_more {s : RunS} (h : (stepS s).fin = 0) : (stepS s).steps = s.steps + 1 ∧ s.fin = 0 ∧ s.steps < s.fuel := by
  unfold stepS at h ⊢
  split at h
  · split at h
    · exact absurd (show (42 : Int) = 0 from h) (by decide)
    · rw [if_pos ‹_›, if_neg ‹_›]; exact ⟨rfl, ‹_›, by omega⟩
  · exact absurd h ‹_›
structure Good (f : FuncS) (s : RunS) (regs : List Int) : Prop where
  inv : s.inv
  len : (regs.length : Int) = f.regs
  fit : ∀ r ∈ regs, fitI r
structure InsTE (B : Hp) (pb fb fo : Nat) (at_ : List Int) (f : FuncS) (okS : RunS → Prop) (ins : RunS → List Int → InsS → RunS × List Int) (x : InsS) : Prop where
  te : ∀ s regs, Good f s regs → okS s → ∀ xb xo xcs xe A c, B.m xb = some ⟨⟨xcs⟩, xe⟩ → xo + 12 ≤ xcs.length → takeV xo 12 xcs = insC x A c → SlAt B A 2 x.args argR →
    TE Try.prog 60 B 8 [0, 3, 4, 5, 6] (fun π => [.pointer (some ⟨π 0, 0, none⟩), .pointer (some ⟨π 5, 0, none⟩), .pointer (some ⟨xb, xo, none⟩)]) (frL pb fb fo s regs at_) (.bool ((ins s regs x).1.fin == 0)) (frL pb fb fo (ins s regs x).1 (ins s regs x).2 at_)
  good : ∀ s regs, Good f s regs → okS s → Good f (ins s regs x).1 (ins s regs x).2
  kept : ∀ s regs, Good f s regs → okS s → Kept s (ins s regs x).1
set_option maxHeartbeats 8000000 in
set_option maxRecDepth 100000 in
theorem blocks_te (B : Hp) (hd : ∀ i b, B.m i = some b → i < B.n) (pb : Nat) (hpb : pb < B.n) (fb fo : Nat) (f : FuncS) (fcs : List Value) (fe : TypeId) (F1 : Option Addr) (c1 : Nat) (F2 : Option Addr) (c2 : Nat) (F3 : Option Addr) (c3 : Nat) (hF : B.m fb = some ⟨⟨fcs⟩, fe⟩) (hFn : fb < B.n) (hFv : takeV fo 6 fcs = funcC f F1 c1 F2 c2 F3 c3) (hfr : f.regs ≤ 1000000000)
    (hBs : SlAt B F3 9 f.blocks (blockR B)) (at_ : List Int) (okS : RunS → Prop) (hok : ∀ s s', okS s → Kept s s' → okS s') (ins : RunS → List Int → InsS → RunS × List Int) (hins : ∀ b ∈ f.blocks, ∀ x ∈ b.ins, InsTE B pb fb fo at_ f okS ins x) (hends : ∀ b ∈ f.blocks, endsS f b.term = true) (hil : ∀ b ∈ f.blocks, b.ins.length ≤ 1000000000) (hb0 : 0 < f.blocks.length)
    (k : Nat) (s : RunS) (regs : List Int) (hg : Good f s regs) (hos : okS s) (hk : s.fuel - s.steps < k) : BlocksTE B pb fb fo s regs at_ (blocksS ins f k 0 s regs) := by
  unfold BlocksTE
  generalize hR0 : blocksS ins f k 0 s regs = R
  refine TE.intro (fn := Try.f48) (c := (Try.f48.body.getD .skip)) Try.func48 (by kernel_rfl) Try.ntmps48 (fun π => by kernel_rfl) (fun π => ⟨⟨_, rfl⟩, ⟨_, rfl⟩, ⟨_, rfl⟩, ⟨_, rfl⟩, ⟨_, rfl⟩, trivial⟩) (fr_par _ _ _ hpb hFn (by omega)) (by simp) fun π => ?_
  conv => arg 2; whnf
  repeat (first | ((with_reducible apply RS.assign); exact rfl; exact rfl; exact rfl) | ((with_reducible apply RS.nil); exact mixed; kernel_rfl) | ((with_reducible apply W.seq)) | ((with_reducible apply W.reg); kernel_rfl) | ((with_reducible apply W.block)) | ((with_reducible apply thenK_n)))
  refine W.loopP (X := Nat × Int × RunS × List Int) (fun π y => [(0, .pointer (some ⟨π 0, 0, none⟩)), (1, .pointer (some ⟨π 5, 0, none⟩)), (5, .int .i64 y.2.1)]) (fun _ => B) (fun π y => frL pb fb fo y.2.2.1 y.2.2.2 at_ π) (fun π' y => EqK π' π [0, 3, 4, 5, 6] ∧ Good f y.2.2.1 y.2.2.2 ∧ okS y.2.2.1 ∧ (0 ≤ y.2.1 ∧ y.2.1 < f.blocks.length) ∧ y.2.2.1.fuel - y.2.2.1.steps < y.1 ∧ blocksS ins f y.1 y.2.1 y.2.2.1 y.2.2.2 = R) (fun y => y.1) [0, 1, 2, 3, 4, 5, 6, 7] (k, 0, s, regs) ⟨⟨rfl, rfl, rfl, rfl, rfl, trivial⟩, hg, hos, ⟨Int.le_refl _, by show (0 : Int) < _; omega⟩, hk, hR0⟩ (by (refine FitL.mk ?_ ?_ ?_ ?_ <;> (repeat' (first | exact trivial | exact rfl | (refine AllB.opt rfl rfl ?_) | apply And.intro)); done)) ?_
  rintro π' ⟨k', bi, s', regs'⟩ ⟨hE, hg', hos', hbi, hk', hR⟩
  dsimp only at hg' hos' hbi hk' hR ⊢
  cases k' with
  | zero => have := hg'.inv.steps; omega
  | succ k' =>
  by_cases hf : s'.fin = 0
  · obtain ⟨b, hb⟩ : ∃ g, f.blocks[bi.toNat]? = some g := ⟨_, List.getElem?_eq_getElem (by omega)⟩
    have hbm := List.mem_of_getElem? hb
    obtain ⟨bb, bo, bcs, be, rfl, hB, hBl, BA, bc, hBv, hBi⟩ := hBs.get _ _ hb
    have hBn := hd _ _ hB
    have hbl := hil b hbm
    rw [blocksS, if_pos hf, hb] at hR
    dsimp only at hR
    have hft : (s'.fin == 0) = true := by simpa using hf
    repeat (first | ((with_reducible apply W.condT); kernel_rfl; (refine congrArg (fun z => some (Value.bool z)) (?_ : _ = true); assumption)) | ((with_reducible apply RS.callR false [0]); exact rfl; exact rfl; exact rfl; exact fun H hH => ok_tf _ _ _ H (hH.l 0 rfl (by simp)) rfl; exact Nm_free (by simp)) | ((with_reducible apply RS.load1B); exact rfl; exact rfl; exact rfl; exact hF; exact hFn; exact take_nth (j := 5) hFv rfl) | ((with_reducible apply RS.load1B); exact rfl; exact rfl; exact rfl; exact hB; exact hBn; exact take_nth (j := 0) hBv rfl) | ((with_reducible apply RS.indexAddrS); exact rfl; exact rfl; exact rfl; exact rfl; exact (Int.toNat_of_nonneg hbi.1).symm; omega) | ((with_reducible apply RS.nilCheck); exact rfl; exact rfl; exact rfl) | ((with_reducible apply RS.move); exact rfl; exact rfl; exact rfl) | ((with_reducible apply RS.assign); exact rfl; exact rfl; exact rfl) | ((with_reducible apply RS.lenSl); exact rfl; exact rfl; exact rfl) | ((with_reducible apply RS.fieldAddr); exact rfl; exact rfl; exact rfl) | ((with_reducible apply RS.load1); exact rfl; exact rfl; exact rfl; exact rfl; exact rfl; exact rfl) | ((with_reducible apply RS.nil); exact mixed; kernel_rfl) | ((with_reducible apply W.seq)) | ((with_reducible apply W.reg); kernel_rfl) | ((with_reducible apply W.block)) | ((with_reducible apply W.skip)) | ((with_reducible apply thenK_n)))
    refine W.loopP (X := Nat × RunS × List Int) (fun π y => [(0, .pointer (some ⟨π 0, 0, none⟩)), (1, .pointer (some ⟨π 5, 0, none⟩)), (6, .pointer (some ⟨bb, bo + bi.toNat * 9, none⟩)), (26, .int .i64 b.ins.length), (27, .int .i64 y.1)]) (fun _ => B) (fun π y => frL pb fb fo y.2.1 y.2.2 at_ π) (fun π'' y => EqK π'' π [0, 3, 4, 5, 6] ∧ Good f y.2.1 y.2.2 ∧ okS y.2.1 ∧ Kept s' y.2.1 ∧ y.2.1.fin = 0 ∧ y.1 ≤ b.ins.length ∧ runIns ins (b.ins.drop y.1) y.2.1 y.2.2 = runIns ins b.ins s' regs') (fun y => b.ins.length - y.1) [0, 1, 2, 3, 4, 5, 6, 7] (0, s', regs') ⟨hE, hg', hos', Kept.refl _, hf, Nat.zero_le _, rfl⟩ (by (refine FitL.mk ?_ ?_ ?_ ?_ <;> (repeat' (first | exact trivial | exact rfl | (refine AllB.opt rfl rfl ?_) | apply And.intro)); done)) ?_
    rintro π'' ⟨i, s2, regs2⟩ ⟨hE2, hg2, hos2, hkp, hf2, hi, hR2⟩
    dsimp only at hg2 hos2 hkp hf2 hi hR2 ⊢
    have q2 : ∀ j, j ∈ [0, 3, 4, 5, 6] → π'' j = π j := fun j hj => hE2.get hj
    by_cases hlt : i < b.ins.length
    · obtain ⟨x, hxi⟩ : ∃ g, b.ins[i]? = some g := ⟨_, List.getElem?_eq_getElem hlt⟩
      obtain ⟨xb, xo, xcs, xe, rfl, hX, hXl, A, c, hXv, hXa⟩ := hBi.get _ _ hxi
      have hI := hins b hbm x (List.mem_of_getElem? hxi)
      have hx := hI.te s2 regs2 hg2 hos2 xb (xo + i * 12) xcs xe A c hX hXl hXv hXa
      rw [drop_get hxi, runIns] at hR2
      by_cases hf3 : (ins s2 regs2 x).1.fin = 0
      · have hft3 : (!((ins s2 regs2 x).1.fin == 0)) = false := by simpa using hf3
        rw [if_pos hf3] at hR2
        repeat (first | ((with_reducible apply W.condF); kernel_rfl; (refine congrArg (fun z => some (Value.bool z)) (?_ : _ = false); assumption)) | ((with_reducible apply RS.load1B); exact rfl; exact rfl; exact rfl; exact hB; exact hBn; exact take_nth (j := 0) hBv rfl) | ((with_reducible apply RS.indexAddrS); exact rfl; exact rfl; exact rfl; exact rfl; exact rfl; omega) | ((with_reducible apply (RS.callE [0, 1, 2, 3, 4, 5, 6, 7] [0, 3, 4, 5, 6])); exact rfl; exact rfl; exact hx; exact rfl; exact rfl; exact ⟨rfl, rfl, rfl, rfl, rfl, rfl, rfl, rfl, trivial⟩; intro π2 hπ2; rw [← hπ2 0 (by decide) (keepE rfl), ← hπ2 5 (by decide) (keepE rfl)]) | ((with_reducible apply RS.nilCheck); exact rfl; exact rfl; exact rfl) | ((with_reducible apply RS.move); exact rfl; exact rfl; exact rfl) | ((with_reducible apply RS.assign); exact rfl; exact rfl; exact rfl) | ((with_reducible apply RS.cmpT); exact rfl; exact rfl; exact rfl; exact rfl; (simp only [cmpP]; omega)) | ((with_reducible apply RS.add1); exact rfl; exact rfl; exact rfl; exact rfl; omega) | ((with_reducible apply RS.not); exact rfl; exact rfl; exact rfl) | ((with_reducible apply RS.fieldAddr); exact rfl; exact rfl; exact rfl) | ((with_reducible apply RS.nil); exact mixed; kernel_rfl) | ((with_reducible apply W.seq)) | ((with_reducible apply W.reg); kernel_rfl) | ((with_reducible apply W.block)) | ((with_reducible apply W.skip)) | ((with_reducible apply W.condT); kernel_rfl; exact rfl) | ((with_reducible apply thenK_n)) | ((with_reducible apply blockK_n)))
        exact roundP_n (i + 1, (ins s2 regs2 x).1, (ins s2 regs2 x).2) [0, 1, 2, 3, 4, 5, 6, 7] rfl rfl ⟨by (repeat' (first | exact trivial | exact (hπ2 _ (by decide) (keepE rfl)).trans (q2 _ (by simp)) | apply And.intro)), hI.good _ _ hg2 hos2, hok _ _ hos2 (hI.kept _ _ hg2 hos2), hkp.trans (hI.kept _ _ hg2 hos2), hf3, by show i + 1 ≤ _; omega, hR2⟩ (by show _ - (i + 1) < _ - i; omega) (by (refine FitL.mk ?_ ?_ ?_ ?_ <;> (repeat' (first | exact trivial | exact rfl | (refine AllB.opt rfl rfl ?_) | apply And.intro)); done))
      · have hft3 : (!((ins s2 regs2 x).1.fin == 0)) = true := by simpa using hf3
        rw [if_neg hf3] at hR2
        rw [← hR2, if_neg hf3] at hR
        rw [← hR]
        repeat (first | ((with_reducible apply W.condT); kernel_rfl; (refine congrArg (fun z => some (Value.bool z)) (?_ : _ = true); assumption)) | ((with_reducible apply RS.load1B); exact rfl; exact rfl; exact rfl; exact hB; exact hBn; exact take_nth (j := 0) hBv rfl) | ((with_reducible apply RS.indexAddrS); exact rfl; exact rfl; exact rfl; exact rfl; exact rfl; omega) | ((with_reducible apply (RS.callE [0, 1, 2, 3, 4, 5, 6, 7] [0, 3, 4, 5, 6])); exact rfl; exact rfl; exact hx; exact rfl; exact rfl; exact ⟨rfl, rfl, rfl, rfl, rfl, rfl, rfl, rfl, trivial⟩; intro π2 hπ2; rw [← hπ2 0 (by decide) (keepE rfl), ← hπ2 5 (by decide) (keepE rfl)]) | ((with_reducible apply RS.nilCheck); exact rfl; exact rfl; exact rfl) | ((with_reducible apply RS.move); exact rfl; exact rfl; exact rfl) | ((with_reducible apply RS.assign); exact rfl; exact rfl; exact rfl) | ((with_reducible apply RS.cmpT); exact rfl; exact rfl; exact rfl; exact rfl; (simp only [cmpP]; omega)) | ((with_reducible apply RS.not); exact rfl; exact rfl; exact rfl) | ((with_reducible apply RS.fieldAddr); exact rfl; exact rfl; exact rfl) | ((with_reducible apply RS.nil); exact mixed; kernel_rfl) | ((with_reducible apply W.seq)) | ((with_reducible apply W.reg); kernel_rfl) | ((with_reducible apply W.block)) | ((with_reducible apply W.ret)) | ((with_reducible apply W.skip)) | ((with_reducible apply W.condT); kernel_rfl; exact rfl) | ((with_reducible apply thenK_n)) | ((with_reducible apply thenK_r)) | ((with_reducible apply blockK_r)) | ((with_reducible apply roundP_r)))
        exact endsK_ret _ (.cons (.tmp rfl) .nil) (by (refine AtE.mk [0, 1, 2, 3, 4, 5, 6, 7] rfl rfl rfl ?_ ?_ rfl <;> (repeat' (first | exact trivial | exact rfl | exact (hπ2 _ (by decide) (keepE rfl)).trans (q2 _ (by simp)) | apply And.intro)); done))
    · have hni : i = b.ins.length := by omega
      subst hni
      rw [List.drop_length, runIns] at hR2
      rw [← hR2] at hR
      dsimp only at hR
      rw [if_pos hf2] at hR
      have hs2 : 0 ≤ s2.steps ∧ s2.steps ≤ 1000000000 := ⟨hg2.inv.steps.1, by have := hg2.inv.steps.2; have := hg2.inv.fuel; omega⟩
      have hrl2 : regs2.length ≤ 1000000000 := by have := hg2.len; omega
      have hi2 := stepS_inv hg2.inv
      have hlk : (stepS s2).leaks.length ≤ 1000000 := by have := hi2.leaks; have := hi2.steps; have := hi2.fuel; omega
      have hkp3 := hkp.trans (stepS_kept s2)
      have hos3 := hok _ _ hos2 (stepS_kept s2)
      by_cases hf4 : (stepS s2).fin = 0
      · have hft4 : (!((stepS s2).fin == 0)) = false := by simpa using hf4
        rw [if_pos hf4] at hR
        have hen := hends b hbm
        unfold endsS at hen
        simp only [Bool.and_eq_true, decide_eq_true_eq] at hen
        obtain ⟨⟨⟨⟨e1, e2⟩, e3⟩, e4⟩, e5⟩ := hen
        have hroom := stepS_room hg2.inv hf4
        have hmore := (stepS_more hf4).1
        have hfu := hkp3.fuel
        have hst3 := hkp.steps
        by_cases hk3 : b.term.kind = 3
        · rw [if_pos hk3] at hR
          rw [← hR]
          repeat (first | ((with_reducible apply W.condF); kernel_rfl; (refine congrArg (fun z => some (Value.bool z)) (?_ : _ = false); assumption)) | ((with_reducible apply (RS.callO (vs := []) [0, 1, 2, 3, 4] 0)); exact rfl; exact rfl; exact step_to B pb hpb s2 hs2; exact rfl; exact rfl; exact ⟨rfl, rfl, rfl, rfl, rfl, trivial⟩; exact step_fresh _ _ _) | ((with_reducible apply RS.loadNB); exact rfl; exact rfl; exact rfl; exact hB; exact hBn; omega; exact takeV_sub (j := 1) (n := 8) hBv (by omega)) | ((with_reducible apply RS.callR false [5, 6]); exact rfl; exact rfl; exact rfl; exact fun H hH => arg_tf b.term.a regs2 _ _ _ H hrl2 (hH.l 5 rfl (by simp)) rfl (hH.l 6 rfl (by simp)); exact Nm_free (by simp)) | ((with_reducible apply RS.nilCheck); exact rfl; exact rfl; exact rfl) | ((with_reducible apply RS.move); exact rfl; exact rfl; exact rfl) | ((with_reducible apply RS.assign); exact rfl; exact rfl; exact rfl) | ((with_reducible apply RS.cmpT); exact rfl; exact rfl; exact rfl; exact rfl; (simp only [cmpP]; omega)) | ((with_reducible apply RS.cmpF); exact rfl; exact rfl; exact rfl; exact rfl; (simp only [cmpN]; omega)) | ((with_reducible apply RS.not); exact rfl; exact rfl; exact rfl) | ((with_reducible apply RS.fieldAddr); exact rfl; exact rfl; exact rfl) | ((with_reducible apply RS.load1); exact rfl; exact rfl; exact rfl; exact rfl; exact rfl; exact rfl) | ((with_reducible apply RS.loadN); exact rfl; exact rfl; exact rfl; exact rfl; exact rfl; exact Nat.le_of_ble_eq_true rfl) | ((with_reducible apply RS.store); exact rfl; exact rfl; exact rfl; exact rfl; exact rfl; exact Nat.le_of_ble_eq_true rfl; exact rfl; exact rfl; exact rfl) | ((with_reducible apply RS.alloc); exact rfl; exact rfl) | ((with_reducible apply RS.nil); exact mixed; kernel_rfl) | ((with_reducible apply W.seq)) | ((with_reducible apply W.reg); kernel_rfl) | ((with_reducible apply W.block)) | ((with_reducible apply W.exit)) | ((with_reducible apply W.ret)) | ((with_reducible apply W.skip)) | ((with_reducible apply W.condT); kernel_rfl; exact rfl) | ((with_reducible apply W.condF); kernel_rfl; exact rfl) | ((with_reducible apply thenK_n)) | ((with_reducible apply thenK_e)) | ((with_reducible apply thenK_r)) | ((with_reducible apply blockK_r)) | ((with_reducible apply blockK_hit); exact rfl) | ((with_reducible apply roundP_e)) | ((with_reducible apply roundP_r)))
          exact endsK_ret _ (.cons (.tmp rfl) .nil) (by (refine AtE.mk [0, 1, 2, 3, 4, 5, 6, 7] rfl rfl rfl ?_ ?_ rfl <;> (repeat' (first | exact trivial | exact rfl | exact q2 _ (by simp) | apply And.intro)); done))
        rw [if_neg hk3] at hR
        by_cases hk1 : b.term.kind = 1
        · rw [if_pos hk1] at hR
          have et : 0 ≤ b.term.goto ∧ b.term.goto < f.blocks.length := by
            unfold nextS at e5; rw [if_pos hk1] at e5
            simpa [targetsS] using e5
          repeat (first | ((with_reducible apply W.condF); kernel_rfl; (refine congrArg (fun z => some (Value.bool z)) (?_ : _ = false); assumption)) | ((with_reducible apply (RS.callO (vs := []) [0, 1, 2, 3, 4] 0)); exact rfl; exact rfl; exact step_to B pb hpb s2 hs2; exact rfl; exact rfl; exact ⟨rfl, rfl, rfl, rfl, rfl, trivial⟩; exact step_fresh _ _ _) | ((with_reducible apply RS.loadNB); exact rfl; exact rfl; exact rfl; exact hB; exact hBn; omega; exact takeV_sub (j := 1) (n := 8) hBv (by omega)) | ((with_reducible apply RS.nilCheck); exact rfl; exact rfl; exact rfl) | ((with_reducible apply RS.move); exact rfl; exact rfl; exact rfl) | ((with_reducible apply RS.assign); exact rfl; exact rfl; exact rfl) | ((with_reducible apply RS.cmpT); exact rfl; exact rfl; exact rfl; exact rfl; (simp only [cmpP]; omega)) | ((with_reducible apply RS.cmpF); exact rfl; exact rfl; exact rfl; exact rfl; (simp only [cmpN]; omega)) | ((with_reducible apply RS.not); exact rfl; exact rfl; exact rfl) | ((with_reducible apply RS.fieldAddr); exact rfl; exact rfl; exact rfl) | ((with_reducible apply RS.load1); exact rfl; exact rfl; exact rfl; exact rfl; exact rfl; exact rfl) | ((with_reducible apply RS.store); exact rfl; exact rfl; exact rfl; exact rfl; exact rfl; exact Nat.le_of_ble_eq_true rfl; exact rfl; exact rfl; exact rfl) | ((with_reducible apply RS.alloc); exact rfl; exact rfl) | ((with_reducible apply RS.nil); exact mixed; kernel_rfl) | ((with_reducible apply W.seq)) | ((with_reducible apply W.reg); kernel_rfl) | ((with_reducible apply W.block)) | ((with_reducible apply W.exit)) | ((with_reducible apply W.skip)) | ((with_reducible apply W.condT); kernel_rfl; exact rfl) | ((with_reducible apply W.condF); kernel_rfl; exact rfl) | ((with_reducible apply thenK_n)) | ((with_reducible apply thenK_e)) | ((with_reducible apply blockK_n)) | ((with_reducible apply blockK_hit); exact rfl) | ((with_reducible apply roundP_e)))
          exact roundP_n (k', b.term.goto, stepS s2, regs2) [0, 1, 2, 3, 4, 5, 6, 7] rfl rfl ⟨hE2, ⟨hi2, hg2.len, hg2.fit⟩, hos3, et, by show (stepS s2).fuel - (stepS s2).steps < _; omega, hR⟩ (Nat.lt_succ_self _) (by (refine FitL.mk ?_ ?_ ?_ ?_ <;> (repeat' (first | exact trivial | exact rfl | (refine AllB.opt rfl rfl ?_) | apply And.intro)); done))
        · rw [if_neg hk1] at hR
          have et : (0 ≤ b.term.goto ∧ b.term.goto < f.blocks.length) ∧ 0 ≤ b.term.els ∧ b.term.els < f.blocks.length := by
            unfold nextS at e5; rw [if_neg hk1, if_pos (by omega)] at e5
            simpa [targetsS] using e5
          repeat (first | ((with_reducible apply W.condF); kernel_rfl; (refine congrArg (fun z => some (Value.bool z)) (?_ : _ = false); assumption)) | ((with_reducible apply (RS.callO (vs := []) [0, 1, 2, 3, 4] 0)); exact rfl; exact rfl; exact step_to B pb hpb s2 hs2; exact rfl; exact rfl; exact ⟨rfl, rfl, rfl, rfl, rfl, trivial⟩; exact step_fresh _ _ _) | ((with_reducible apply RS.loadNB); exact rfl; exact rfl; exact rfl; exact hB; exact hBn; omega; exact takeV_sub (j := 1) (n := 8) hBv (by omega)) | ((with_reducible apply RS.callR false [5, 6]); exact rfl; exact rfl; exact rfl; exact fun H hH => arg_tf b.term.a regs2 _ _ _ H hrl2 (hH.l 5 rfl (by simp)) rfl (hH.l 6 rfl (by simp)); exact Nm_free (by simp)) | ((with_reducible apply RS.callR false [5, 6]); exact rfl; exact rfl; exact rfl; exact fun H hH => arg_tf b.term.b regs2 _ _ _ H hrl2 (hH.l 5 rfl (by simp)) rfl (hH.l 6 rfl (by simp)); exact Nm_free (by simp)) | ((with_reducible apply RS.callP); exact rfl; exact rfl; exact rfl; exact fun H => (holds_tf _ _ _ H); exact Nm_free (by simp)) | ((with_reducible apply RS.nilCheck); exact rfl; exact rfl; exact rfl) | ((with_reducible apply RS.move); exact rfl; exact rfl; exact rfl) | ((with_reducible apply RS.assign); exact rfl; exact rfl; exact rfl) | ((with_reducible apply RS.cmpF); exact rfl; exact rfl; exact rfl; exact rfl; (simp only [cmpN]; omega)) | ((with_reducible apply RS.not); exact rfl; exact rfl; exact rfl) | ((with_reducible apply RS.fieldAddr); exact rfl; exact rfl; exact rfl) | ((with_reducible apply RS.load1); exact rfl; exact rfl; exact rfl; exact rfl; exact rfl; exact rfl) | ((with_reducible apply RS.loadN); exact rfl; exact rfl; exact rfl; exact rfl; exact rfl; exact Nat.le_of_ble_eq_true rfl) | ((with_reducible apply RS.store); exact rfl; exact rfl; exact rfl; exact rfl; exact rfl; exact Nat.le_of_ble_eq_true rfl; exact rfl; exact rfl; exact rfl) | ((with_reducible apply RS.alloc); exact rfl; exact rfl) | ((with_reducible apply RS.build); exact rfl; exact rfl; exact rfl; exact rfl) | ((with_reducible apply RS.nil); exact mixed; kernel_rfl) | ((with_reducible apply W.seq)) | ((with_reducible apply W.reg); kernel_rfl) | ((with_reducible apply W.block)) | ((with_reducible apply W.exit)) | ((with_reducible apply W.skip)) | ((with_reducible apply W.condF); kernel_rfl; exact rfl) | ((with_reducible apply thenK_n)) | ((with_reducible apply thenK_e)) | ((with_reducible apply blockK_hit); exact rfl) | ((with_reducible apply roundP_e)))
          repeat' ((first | (((with_reducible apply RS.splitD); exact rfl; exact rfl) <;> intro _) | ((((with_reducible apply RS.splitG); exact rfl; exact rfl) <;> intro _) <;> (fail_if_success (exact absurd ‹true = false› (by decide))) <;> (fail_if_success (exact absurd ‹false = true› (by decide)))) | (((with_reducible apply W.condD); exact rfl) <;> intro _) | ((((with_reducible apply W.cond); exact rfl) <;> intro _) <;> (fail_if_success (exact absurd ‹true = false› (by decide))) <;> (fail_if_success (exact absurd ‹false = true› (by decide))))) <;> repeat (first | ((with_reducible apply RS.buildSlice); exact rfl; exact rfl; exact rfl; exact rfl; exact rfl; exact rfl; exact rfl; exact rfl) | ((with_reducible apply (RS.appendRow (w := leakW) (l0 := (stepS s2).leaks) (q := leakB true))); exact rfl; exact rfl; exact rfl; exact rfl; exact rfl; exact rfl; exact rfl; exact rfl; exact rfl; exact rfl; exact rfl; exact Nat.le_of_ble_eq_true rfl; exact fun _ => rfl; exact rfl; omega; omega) | ((with_reducible apply (RS.appendRow (w := leakW) (l0 := (stepS s2).leaks) (q := leakB false))); exact rfl; exact rfl; exact rfl; exact rfl; exact rfl; exact rfl; exact rfl; exact rfl; exact rfl; exact rfl; exact rfl; exact Nat.le_of_ble_eq_true rfl; exact fun _ => rfl; exact rfl; omega; omega) | ((with_reducible apply RS.nilCheck); exact rfl; exact rfl; exact rfl) | ((with_reducible apply RS.move); exact rfl; exact rfl; exact rfl) | ((with_reducible apply RS.assign); exact rfl; exact rfl; exact rfl) | ((with_reducible apply RS.fieldAddr); exact rfl; exact rfl; exact rfl) | ((with_reducible apply RS.load1); exact rfl; exact rfl; exact rfl; exact rfl; exact rfl; exact rfl) | ((with_reducible apply RS.loadN); exact rfl; exact rfl; exact rfl; exact rfl; exact rfl; exact Nat.le_of_ble_eq_true rfl) | ((with_reducible apply RS.store); exact rfl; exact rfl; exact rfl; exact rfl; exact rfl; exact Nat.le_of_ble_eq_true rfl; exact rfl; exact rfl; exact rfl) | ((with_reducible apply RS.nil); exact mixed; kernel_rfl) | ((with_reducible apply W.reg); kernel_rfl) | ((with_reducible apply W.skip)) | ((with_reducible apply thenK_n)) | ((with_reducible apply blockK_n))))
          · rw [if_pos ‹_›] at hR
            exact roundP_n (k', b.term.goto, leakS (stepS s2) (leakB true), regs2) [0, 1, 11, 3, 4, 5, 6, 7] rfl rfl ⟨hE2, ⟨leakS_inv hi2 hroom.1 _, hg2.len, hg2.fit⟩, hok _ _ hos3 (leakS_kept _ _), et.1, by show (stepS s2).fuel - (stepS s2).steps < _; omega, hR⟩ (Nat.lt_succ_self _) (by (refine FitL.mk ?_ ?_ ?_ ?_ <;> (repeat' (first | exact trivial | exact rfl | (refine AllB.opt rfl rfl ?_) | apply And.intro)); done))
          · rw [if_neg (by simp [*])] at hR
            exact roundP_n (k', b.term.els, leakS (stepS s2) (leakB false), regs2) [0, 1, 11, 3, 4, 5, 6, 7] rfl rfl ⟨hE2, ⟨leakS_inv hi2 hroom.1 _, hg2.len, hg2.fit⟩, hok _ _ hos3 (leakS_kept _ _), et.2, by show (stepS s2).fuel - (stepS s2).steps < _; omega, hR⟩ (Nat.lt_succ_self _) (by (refine FitL.mk ?_ ?_ ?_ ?_ <;> (repeat' (first | exact trivial | exact rfl | (refine AllB.opt rfl rfl ?_) | apply And.intro)); done))
      · have hft4 : (!((stepS s2).fin == 0)) = true := by simpa using hf4
        rw [if_neg hf4] at hR
        rw [← hR]
        repeat (first | ((with_reducible apply W.condT); kernel_rfl; (refine congrArg (fun z => some (Value.bool z)) (?_ : _ = true); assumption)) | ((with_reducible apply (RS.callO (vs := []) [0, 1, 2, 3, 4] 0)); exact rfl; exact rfl; exact step_to B pb hpb s2 hs2; exact rfl; exact rfl; exact ⟨rfl, rfl, rfl, rfl, rfl, trivial⟩; exact step_fresh _ _ _) | ((with_reducible apply RS.move); exact rfl; exact rfl; exact rfl) | ((with_reducible apply RS.assign); exact rfl; exact rfl; exact rfl) | ((with_reducible apply RS.cmpF); exact rfl; exact rfl; exact rfl; exact rfl; (simp only [cmpN]; omega)) | ((with_reducible apply RS.not); exact rfl; exact rfl; exact rfl) | ((with_reducible apply RS.nil); exact mixed; kernel_rfl) | ((with_reducible apply W.seq)) | ((with_reducible apply W.reg); kernel_rfl) | ((with_reducible apply W.exit)) | ((with_reducible apply W.ret)) | ((with_reducible apply W.condF); kernel_rfl; exact rfl) | ((with_reducible apply thenK_n)) | ((with_reducible apply thenK_e)) | ((with_reducible apply thenK_r)) | ((with_reducible apply blockK_r)) | ((with_reducible apply blockK_hit); exact rfl) | ((with_reducible apply roundP_e)) | ((with_reducible apply roundP_r)))
        exact endsK_ret _ (.cons (.tmp rfl) .nil) (by (refine AtE.mk [0, 1, 2, 3, 4, 5, 6, 7] rfl rfl rfl ?_ ?_ rfl <;> (repeat' (first | exact trivial | exact rfl | exact q2 _ (by simp) | apply And.intro)); done))
  · have hft : (s'.fin == 0) = false := by simpa using hf
    rw [blocksS, if_neg hf] at hR
    rw [← hR]
    repeat (first | ((with_reducible apply W.condF); kernel_rfl; (refine congrArg (fun z => some (Value.bool z)) (?_ : _ = false); assumption)) | ((with_reducible apply RS.callR false [0]); exact rfl; exact rfl; exact rfl; exact fun H hH => ok_tf _ _ _ H (hH.l 0 rfl (by simp)) rfl; exact Nm_free (by simp)) | ((with_reducible apply RS.move); exact rfl; exact rfl; exact rfl) | ((with_reducible apply RS.assign); exact rfl; exact rfl; exact rfl) | ((with_reducible apply RS.nil); exact mixed; kernel_rfl) | ((with_reducible apply W.seq)) | ((with_reducible apply W.reg); kernel_rfl) | ((with_reducible apply W.exit)) | ((with_reducible apply W.ret)) | ((with_reducible apply thenK_n)) | ((with_reducible apply thenK_e)) | ((with_reducible apply blockK_hit); exact rfl) | ((with_reducible apply roundP_e)))
    have q : ∀ j, j ∈ [0, 3, 4, 5, 6] → π' j = π j := fun j hj => hE.get hj
    exact endsK_ret _ (.cons (.tmp rfl) .nil) (by (refine AtE.mk [0, 1, 2, 3, 4, 5, 6, 7] rfl rfl rfl ?_ ?_ rfl <;> (repeat' (first | exact trivial | exact rfl | exact q _ (by simp) | apply And.intro)); done))
end Go.Proofs.Ytjhloakacicdiaa
namespace Go.Proofs.Ytjhloakacicdiaa
open Go.AH
attribute [local irreducible] W RS
set_option maxHeartbeats 4000000 in
set_option maxRecDepth 100000 in
theorem callover_te (B : Hp) (pb : Nat) (hpb : pb < B.n) (s : RunS) (hdp : 100 < s.deep + 1 ∧ s.deep ≤ 1000) (n : Int) (args : List Int) :
    TE Try.prog 35 B 6 [0, 3, 4] (fun π => [.pointer (some ⟨π 0, 0, none⟩), .int .i64 n, rowVl 1 (π 5) args]) (caL pb s args) (.int .i64 0) (caL pb (stopS { s with deep := s.deep + 1 } 45) args) := by
  refine TE.intro (fn := Try.f35) (c := (Try.f35.body.getD .skip)) Try.func35 (by kernel_rfl) Try.ntmps35 (fun π => by kernel_rfl) (fun π => ⟨⟨_, rfl⟩, ⟨_, rfl⟩, ⟨_, rfl⟩, trivial⟩) (ca_par _ _ hpb (by omega)) (by simp) fun π => ?_
  conv => arg 2; whnf
  repeat (first | ((with_reducible apply (RS.callO (vs := []) [0, 1, 2, 3, 4] 0)); exact rfl; exact rfl; exact stop_to _ pb hpb { s with deep := s.deep + 1 } 45; exact rfl; exact rfl; exact ⟨rfl, rfl, rfl, rfl, rfl, trivial⟩; exact stop_fresh _ _ _ _) | ((with_reducible apply RS.nilCheck); exact rfl; exact rfl; exact rfl) | ((with_reducible apply RS.move); exact rfl; exact rfl; exact rfl) | ((with_reducible apply RS.assign); exact rfl; exact rfl; exact rfl) | ((with_reducible apply RS.cmpT); exact rfl; exact rfl; exact rfl; exact rfl; (simp only [cmpP]; omega)) | ((with_reducible apply RS.binFit); exact rfl; exact rfl; exact rfl; exact rfl; exact rfl; omega) | ((with_reducible apply RS.fieldAddr); exact rfl; exact rfl; exact rfl) | ((with_reducible apply RS.load1); exact rfl; exact rfl; exact rfl; exact rfl; exact rfl; exact rfl) | ((with_reducible apply RS.store); exact rfl; exact rfl; exact rfl; exact rfl; exact rfl; exact Nat.le_of_ble_eq_true rfl; exact rfl; exact rfl; exact rfl) | ((with_reducible apply RS.nil); exact mixed; kernel_rfl) | ((with_reducible apply W.seq)) | ((with_reducible apply W.reg); kernel_rfl) | ((with_reducible apply W.ret)) | ((with_reducible apply W.condT); kernel_rfl; exact rfl) | ((with_reducible apply thenK_n)) | ((with_reducible apply thenK_r)))
  exact endsK_ret _ (.cons (.tmp rfl) .nil) (by (refine AtE.mk [0, 1, 2, 3, 4, 5] rfl rfl rfl ?_ ?_ rfl <;> (repeat' (first | exact trivial | exact rfl | apply And.intro)); done))
end Go.Proofs.Ytjhloakacicdiaa
namespace Go.Proofs.Ytjhloakacicdiaa
open Go.AH
def callK (p : ProgS) (N : Nat) : Nat → RunS → Int → List Int → Int × RunS
  | 0, s, _, _ => (0, s)
  | d + 1, s, n, args =>
    if 100 < s.deep + 1 then (0, stopS { s with deep := s.deep + 1 } 45) else
    match p.funcs[n.toNat]? with
    | none => (0, s)
    | some f =>
      ((blocksS (insS p (callsS p (callK p N d)) (rowAt s.sp f.slots f.slots.length)) f N 0 (spDone s f) (regsS f args)).1,
        { (blocksS (insS p (callsS p (callK p N d)) (rowAt s.sp f.slots f.slots.length)) f N 0 (spDone s f) (regsS f args)).2.1 with sp := s.sp, deep := (blocksS (insS p (callsS p (callK p N d)) (rowAt s.sp f.slots f.slots.length)) f N 0 (spDone s f) (regsS f args)).2.1.deep - 1 })
structure RunP (p : ProgS) : Prop where
  ok : p.ok
  right : rightP p = true
  nf : p.funcs.length ≤ 1000000
  regs : ∀ f ∈ p.funcs, f.regs ≤ 1000000
  nsl : ∀ f ∈ p.funcs, f.slots.length ≤ 4
  slots : ∀ f ∈ p.funcs, ∀ z ∈ f.slots, 0 ≤ z ∧ z ≤ 1000
  nin : ∀ f ∈ p.funcs, ∀ b ∈ f.blocks, b.ins.length ≤ 1000000000
  nargs : ∀ f ∈ p.funcs, ∀ b ∈ f.blocks, ∀ x ∈ b.ins, x.args.length ≤ 1000000
theorem RunP.func {p : ProgS} (h : RunP p) {f : FuncS} (hf : f ∈ p.funcs) : funcOK p f = true := by
  have := h.right
  unfold rightP at this
  simp only [Bool.and_eq_true] at this
  exact List.all_eq_true.1 this.2 f hf
theorem loadS_kept (s : RunS) (at_ : Int) (n : Nat) (sg : Bool) : Kept s (loadS s at_ n sg).2 := by
  unfold loadS
  split
  · exact leakS_kept _ _
  · split
    · exact leakS_kept _ _
    · exact (leakS_kept _ _).trans (stopS_kept _ _ (by decide))
theorem storeS_kept (s : RunS) (at_ : Int) (n : Nat) (v : Int) : Kept s (storeS s at_ n v) := by
  unfold storeS
  split
  · exact ⟨rfl, by show s.steps ≤ s.steps; omega, .inl ⟨rfl, id⟩, rfl, rfl, storeV_len _ _ _ _⟩
  · split
    · exact ⟨rfl, by show s.steps ≤ s.steps; omega, .inl ⟨rfl, id⟩, rfl, storeV_len _ _ _ _, rfl⟩
    · exact (leakS_kept _ _).trans (stopS_kept _ _ (by decide))
theorem insS_kept {p : ProgS} {cl : RunS → List Int → InsS → Int × RunS} {at_ : List Int} {s : RunS} {regs : List Int} {x : InsS} (hop : 1 ≤ x.op ∧ x.op ≤ 30) (hc : (stepS s).fin = 0 → (x.op = 28 ∨ x.op = 29) → Kept (stepS s) (cl (stepS s) regs x).2) : Kept s (insS p cl at_ s regs x).1 := by
  have h1 := stepS_kept s
  refine insS_elim (Q := fun r => Kept s r.1) (fun _ => h1) (fun _ _ => h1) (fun _ _ => ?_) (fun _ _ => h1) (fun _ _ => h1) (fun _ _ => h1) (fun _ _ => h1) (fun hf _ => h1.trans (loadS_kept _ _ _ _)) (fun hf _ => h1.trans (storeS_kept _ _ _ _)) (fun hf _ => ?_) (fun hf q1 q2 q3 q4 => h1.trans (hc hf (op_call hop q1 q2 q3 q4)))
  · dsimp only
    split
    · exact h1
    · exact h1.trans (stopS_kept _ _ (by decide))
  · dsimp only
    split
    · exact h1.trans (stopS_kept _ _ (by decide))
    · exact h1.trans ⟨rfl, by show (stepS s).steps ≤ (stepS s).steps; omega, .inl ⟨rfl, id⟩, rfl, rfl, rfl⟩
structure CallRes (s : RunS) (r : Int × RunS) : Prop where
  inv : r.2.inv
  fit : fitI r.1
  kept : Kept s r.2
theorem fit0 : fitI 0 := ⟨by omega, by omega⟩
theorem callsS_res {p : ProgS} {cl : RunS → Int → List Int → Int × RunS} {s : RunS} {regs : List Int} {x : InsS} (h : s.inv) (hr : (s.leaks.length : Int) + 1 ≤ s.steps) (h28 : x.op ≠ 29 → paramsAt p x.ref = some (x.args.length : Int))
    (hcl : ∀ s' n args, (s' = s ∨ ∃ q, s' = leakS s q) → paramsAt p n = some (args.length : Int) → (∃ k, args = accV regs x.args k) → CallRes s' (cl s' n args)) : CallRes s (callsS p cl s regs x) := by
  unfold callsS
  split
  · have hl := leakS_inv h hr ⟨4, argS regs x.a, 0⟩
    split
    · exact ⟨stopS_inv hl _, fit0, (leakS_kept _ _).trans (stopS_kept _ _ (by decide))⟩
    · split
      · rename_i hp
        obtain ⟨g1, g2, g3⟩ := hcl (leakS s ⟨4, argS regs x.a, 0⟩) (funcAt (argS regs x.a)) (accV regs x.args x.args.length) (.inr ⟨_, rfl⟩) (by rw [accV_len]; exact hp) ⟨_, rfl⟩
        exact ⟨g1, g2, (leakS_kept _ _).trans g3⟩
      · exact ⟨stopS_inv hl _, fit0, (leakS_kept _ _).trans (stopS_kept _ _ (by decide))⟩
  · rename_i hop
    exact hcl s x.ref _ (.inl rfl) (by rw [accV_len]; exact h28 hop) ⟨_, rfl⟩
theorem accV_fit {regs : List Int} {l : List ArgS} (hr : ∀ r ∈ regs, fitI r) (hl : ∀ a ∈ l, a.ok) : ∀ k, ∀ v ∈ accV regs l k, fitI v := by
  intro k
  induction k with
  | zero => intro v hv; cases hv
  | succ k ih =>
    intro v hv
    rw [accV, List.mem_cons] at hv
    rcases hv with rfl | hv
    · refine fit_arg hr ?_
      rw [List.getD_eq_getElem?_getD]
      cases h : l[k]? with
      | none => exact ⟨fit0, fit0⟩
      | some a => exact hl a (List.mem_of_getElem? h)
    · exact ih v hv
structure InsRes (f : FuncS) (okS : RunS → Prop) (ins : RunS → List Int → InsS → RunS × List Int) (x : InsS) : Prop where
  good : ∀ s regs, Good f s regs → okS s → Good f (ins s regs x).1 (ins s regs x).2
  kept : ∀ s regs, Good f s regs → okS s → Kept s (ins s regs x).1
theorem runIns_res {f : FuncS} {okS : RunS → Prop} (hok : ∀ s s', okS s → Kept s s' → okS s') {ins : RunS → List Int → InsS → RunS × List Int} : ∀ {l : List InsS}, (∀ x ∈ l, InsRes f okS ins x) → ∀ {s : RunS} {regs : List Int}, Good f s regs → okS s → Good f (runIns ins l s regs).1 (runIns ins l s regs).2 ∧ Kept s (runIns ins l s regs).1 := by
  intro l
  induction l with
  | nil => intro _ s regs hg _; exact ⟨hg, Kept.refl _⟩
  | cons x l ih =>
    intro hx s regs hg ho
    have h1 := hx x (by simp)
    have k1 := h1.kept s regs hg ho
    rw [runIns]
    split
    · obtain ⟨g1, g2⟩ := ih (fun y hy => hx y (by simp [hy])) (h1.good s regs hg ho) (hok _ _ ho k1)
      exact ⟨g1, k1.trans g2⟩
    · exact ⟨h1.good s regs hg ho, k1⟩
theorem blocksS_res {f : FuncS} {okS : RunS → Prop} (hok : ∀ s s', okS s → Kept s s' → okS s') {ins : RunS → List Int → InsS → RunS × List Int} (hins : ∀ b ∈ f.blocks, ∀ x ∈ b.ins, InsRes f okS ins x) (hterm : ∀ b ∈ f.blocks, b.term.ok) : ∀ {k : Nat} {bi : Int} {s : RunS} {regs : List Int}, Good f s regs → okS s →
    (blocksS ins f k bi s regs).2.1.inv ∧ fitI (blocksS ins f k bi s regs).1 ∧ Kept s (blocksS ins f k bi s regs).2.1 := by
  intro k
  induction k with
  | zero => intro bi s regs hg _; exact ⟨hg.inv, fit0, Kept.refl _⟩
  | succ k ih =>
    intro bi s regs hg ho
    rw [blocksS]
    split
    · split
      · exact ⟨hg.inv, fit0, Kept.refl _⟩
      · rename_i b hb
        have hbm := List.mem_of_getElem? hb
        obtain ⟨g1, k1⟩ := runIns_res hok (hins b hbm) hg ho
        have o1 := hok _ _ ho k1
        split
        · have i2 := stepS_inv g1.inv
          have k2 := k1.trans (stepS_kept (runIns ins b.ins s regs).1)
          have o2 := hok _ _ ho k2
          split
          · rename_i hf
            have hr := (stepS_room g1.inv hf).1
            split
            · exact ⟨i2, fit_arg g1.fit (hterm b hbm).a, k2⟩
            · split
              · obtain ⟨a1, a2, a3⟩ := ih (bi := b.term.goto) ⟨i2, g1.len, g1.fit⟩ o2
                exact ⟨a1, a2, k2.trans a3⟩
              · split
                · have k3 := k2.trans (leakS_kept _ (leakB true))
                  obtain ⟨a1, a2, a3⟩ := ih (bi := b.term.goto) ⟨leakS_inv i2 hr _, g1.len, g1.fit⟩ (hok _ _ ho k3)
                  exact ⟨a1, a2, k3.trans a3⟩
                · have k3 := k2.trans (leakS_kept _ (leakB false))
                  obtain ⟨a1, a2, a3⟩ := ih (bi := b.term.els) ⟨leakS_inv i2 hr _, g1.len, g1.fit⟩ (hok _ _ ho k3)
                  exact ⟨a1, a2, k3.trans a3⟩
          · exact ⟨i2, fit0, k2⟩
        · exact ⟨g1.inv, fit0, k1⟩
    · exact ⟨hg.inv, fit0, Kept.refl _⟩
theorem slotSz_le {z : Int} (h : 0 ≤ z ∧ z ≤ 1000) : 0 ≤ slotSz z ∧ slotSz z ≤ 1008 := by
  obtain ⟨n, rfl⟩ : ∃ n : Nat, z = n := ⟨z.toNat, by omega⟩
  have hn : n < 1001 := by omega
  have key : ∀ n : Fin 1001, 0 ≤ slotSz (n.val : Int) ∧ slotSz (n.val : Int) ≤ 1008 := by decide +kernel
  exact key ⟨n, hn⟩
theorem spAt_le {sp : Int} {sl : List Int} (h0 : 0 ≤ sp - 1008 * sl.length) (h1 : sp ≤ 134217728) (hz : ∀ z ∈ sl, 0 ≤ z ∧ z ≤ 1000) : ∀ i, i ≤ sl.length → sp - 1008 * i ≤ spAt sp sl i ∧ spAt sp sl i ≤ sp := by
  intro i
  induction i with
  | zero => intro _; simp [spAt]
  | succ i ih =>
    intro hi
    have h2 := ih (by omega)
    have h3 : 0 ≤ slotSz (sl.getD i 0) ∧ slotSz (sl.getD i 0) ≤ 1008 := by
      refine slotSz_le (hz _ ?_)
      rw [List.getD_eq_getElem?_getD, List.getElem?_eq_getElem (by omega)]
      exact List.getElem_mem _
    rw [spAt, wrap64_fit (by omega) (by omega)]
    omega
theorem regsS_fit {f : FuncS} {args : List Int} (h : ∀ a ∈ args, fitI a) : ∀ r ∈ regsS f args, fitI r := by
  intro r hr
  unfold regsS at hr
  rw [List.mem_append] at hr
  rcases hr with hr | hr
  · exact h r (by simpa using hr)
  · rw [List.eq_of_mem_replicate hr]; exact fit0
structure CallOK (N d : Nat) (s : RunS) : Prop where
  inv : s.inv
  fin : s.fin = 0
  stack : s.stack.length = 416000
  lo : 134217728 - 4032 * s.deep ≤ s.sp
  hi : s.sp ≤ 134217728
  depth : 101 ≤ s.deep + d
  deep : s.deep ≤ 100
  steps : s.fuel - s.steps < N
theorem call_all (B : Hp) (hd : ∀ i b, B.m i = some b → i < B.n) (p : ProgS) (hR : RunP p) (pb : Nat) (pe : TypeId) (P1 : Option Addr) (d1 : Nat) (P2 : Option Addr) (d2 : Nat) (hp : ProgAt B pb p pe P1 d1 P2 d2) (N : Nat) : ∀ d, ∀ s n args, CallOK N d s → paramsAt p n = some (args.length : Int) → (∀ a ∈ args, fitI a) →
    CallTE B pb (callK p N d) s n args ∧ CallRes s (callK p N d s n args) := by
  have hpb := hd _ _ hp.m
  intro d
  induction d with
  | zero => intro s n args hs _ _; have := hs.depth; have := hs.deep; omega
  | succ d ih =>
    intro s n args hs hpar hfit
    have hdl := hs.deep
    have hd0 := hs.inv.deep
    by_cases hov : 100 < s.deep + 1
    · have e : callK p N (d + 1) s n args = (0, stopS { s with deep := s.deep + 1 } 45) := by rw [callK, if_pos hov]
      unfold CallTE
      rw [e]
      refine ⟨callover_te B pb hpb s ⟨hov, by omega⟩ n args, ⟨stopS_inv ?_ _, fit0, ?_⟩⟩
      · obtain ⟨a1, a2, a3, a4, a5, a6, a7⟩ := hs.inv
        exact ⟨a1, a2, a3, a4, a5, a6, ⟨by show 0 ≤ s.deep + 1; omega, by show s.deep + 1 ≤ 101; omega⟩⟩
      · have hf : stopS { s with deep := s.deep + 1 } 45 = { s with deep := s.deep + 1, fin := 45 } := by unfold stopS; rw [if_pos (show ({ s with deep := s.deep + 1 } : RunS).fin = 0 from hs.fin)]
        rw [hf]
        exact ⟨rfl, by show s.steps ≤ s.steps; omega, .inr ⟨hs.fin, by show ¬ (45 : Int) = 0; omega, rfl⟩, rfl, rfl, rfl⟩
    · 
      have hpar' := hpar
      unfold paramsAt at hpar'
      by_cases hn0 : 0 ≤ n
      case neg => rw [if_neg hn0] at hpar'; cases hpar'
      rw [if_pos hn0] at hpar'
      cases hfn : p.funcs[n.toNat]? with
      | none => rw [hfn] at hpar'; cases hpar'
      | some f =>
        rw [hfn] at hpar'
        simp only [Option.map_some, Option.some.injEq] at hpar'
        have hfm := List.mem_of_getElem? hfn
        have hfo := hR.func hfm
        unfold funcOK at hfo
        simp only [Bool.and_eq_true, decide_eq_true_eq] at hfo
        obtain ⟨⟨⟨⟨⟨f1, f2⟩, f3⟩, f4⟩, f5⟩, f6⟩ := hfo
        obtain ⟨m, hm⟩ : ∃ m : Nat, f.regs = m := ⟨f.regs.toNat, by omega⟩
        have hrg := hR.regs f hfm
        have hfok := hR.ok.funcs f hfm
        obtain ⟨gb, go, fcs, fe, hP1, hF, hFl, F1, c1, F2, c2, F3, c3, hFv, hS, hBs⟩ := hp.fs.get _ _ hfn
        have hFn := hd _ _ hF
        have hsl4 := hR.nsl f hfm
        have hlo := hs.lo
        have hhi := hs.hi
        have hsp := spAt_le (sp := s.sp) (sl := f.slots) (by omega) hhi (hR.slots f hfm) f.slots.length (Nat.le_refl _)
        have hstk := hs.stack
        have e : callK p N (d + 1) s n args = ((blocksS (insS p (callsS p (callK p N d)) (rowAt s.sp f.slots f.slots.length)) f N 0 (spDone s f) (regsS f args)).1, { (blocksS (insS p (callsS p (callK p N d)) (rowAt s.sp f.slots f.slots.length)) f N 0 (spDone s f) (regsS f args)).2.1 with sp := s.sp, deep := (blocksS (insS p (callsS p (callK p N d)) (rowAt s.sp f.slots f.slots.length)) f N 0 (spDone s f) (regsS f args)).2.1.deep - 1 }) := by
          rw [callK, if_neg hov, hfn]
        have hgood : Good f (spDone s f) (regsS f args) := by
          obtain ⟨a1, a2, a3, a4, a5, a6, a7⟩ := hs.inv
          exact ⟨⟨a1, a2, a3, a4, a5, a6, ⟨by show 0 ≤ s.deep + 1; omega, by show s.deep + 1 ≤ 101; omega⟩⟩, by rw [regsS_len hm (by omega)]; exact hm.symm, regsS_fit hfit⟩
        let okS : RunS → Prop := fun t => (t.fin = 0 → t.deep = s.deep + 1) ∧ t.sp = spAt s.sp f.slots f.slots.length ∧ t.stack.length = 416000 ∧ t.fuel = s.fuel ∧ s.steps ≤ t.steps
        have hok : ∀ t t', okS t → Kept t t' → okS t' := by
          rintro t t' ⟨q1, q2, q3, q4, q5⟩ hk
          refine ⟨fun h0 => ?_, hk.sp.trans q2, hk.stack.trans q3, hk.fuel.trans q4, Int.le_trans q5 hk.steps⟩
          rcases hk.deep with ⟨k1, k2⟩ | ⟨_, k2, _⟩
          · rw [k1]; exact q1 (Decidable.byContradiction fun hc => k2 hc h0)
          · exact absurd h0 k2
        have ho : okS (spDone s f) := ⟨fun _ => rfl, rfl, hstk, rfl, Int.le_refl _⟩
        have hblk : ∀ b ∈ f.blocks, b.ins.all (rightS p f) = true ∧ endsS f b.term = true := by
          intro b hb
          have := List.all_eq_true.1 f6 b hb
          unfold blockOK at this
          simpa [Bool.and_eq_true] using this
        have hx1 : ∀ b ∈ f.blocks, ∀ x ∈ b.ins, rightS p f x = true := fun b hb x hx => List.all_eq_true.1 (hblk b hb).1 x hx
        have hop : ∀ b ∈ f.blocks, ∀ x ∈ b.ins, 1 ≤ x.op ∧ x.op ≤ 30 := by
          intro b hb x hx
          have := hx1 b hb x hx
          unfold rightS at this
          simp only [Bool.and_eq_true, decide_eq_true_eq] at this
          obtain ⟨⟨⟨⟨⟨o1, o2⟩, _⟩, _⟩, _⟩, _⟩ := this
          exact ⟨o1, o2⟩
        have hcall : ∀ t regs, Good f t regs → okS t → (stepS t).fin = 0 → ∀ b ∈ f.blocks, ∀ x ∈ b.ins, ∀ s' n' args', (s' = stepS t ∨ ∃ q, s' = leakS (stepS t) q) → paramsAt p n' = some (args'.length : Int) → (∃ k, args' = accV regs x.args k) → CallTE B pb (callK p N d) s' n' args' ∧ CallRes s' (callK p N d s' n' args') := by
          rintro t regs hg ⟨q1, q2, q3, q4, q5⟩ hft b hb x hx s' n' args' hs' hp' ⟨k, rfl⟩
          have hxo : x.ok := (hfok.blocks b hb).ins x hx
          have i1 := stepS_inv hg.inv
          have hm1 := stepS_more hft
          have hk1 := stepS_kept t
          have hdp : (stepS t).deep = s.deep + 1 := by
            rcases hk1.deep with ⟨k1, _⟩ | ⟨_, k2, _⟩
            · rw [k1]; exact q1 hm1.2.1
            · exact absurd hft k2
          have base : CallOK N d (stepS t) := by
            have := hs.steps
            have := hs.depth
            have e1 := hk1.sp
            have e2 := hk1.stack
            have e3 := hk1.fuel
            have e4 := hk1.steps
            exact ⟨i1, hft, by omega, by omega, by omega, by omega, by omega, by omega⟩
          refine ih s' n' _ ?_ hp' (accV_fit hg.fit hxo.args k)
          rcases hs' with rfl | ⟨q, rfl⟩
          · exact base
          · exact ⟨leakS_inv i1 (stepS_room hg.inv hft).1 q, base.fin, base.stack, base.lo, base.hi, base.depth, base.deep, base.steps⟩
        have hcalls : ∀ t regs, Good f t regs → okS t → (stepS t).fin = 0 → ∀ b ∈ f.blocks, ∀ x ∈ b.ins, x.op = 28 ∨ x.op = 29 → CallRes (stepS t) (callsS p (callK p N d) (stepS t) regs x) := by
          intro t regs hg hot hft b hb x hx hopc
          refine callsS_res (stepS_inv hg.inv) (stepS_room hg.inv hft).1 (fun h29 => ?_) fun s' n' args' h1 h2 h3 => (hcall t regs hg hot hft b hb x hx s' n' args' h1 h2 h3).2
          have := hx1 b hb x hx
          unfold rightS at this
          simp only [Bool.and_eq_true, decide_eq_true_eq] at this
          have ht := this.2
          unfold rightT at ht
          rw [if_neg (by omega), if_neg (by omega), if_neg (by omega), if_neg (by omega), if_neg (by omega), if_pos (by omega)] at ht
          simpa using ht
        have hres : ∀ b ∈ f.blocks, ∀ x ∈ b.ins, InsRes f okS (insS p (callsS p (callK p N d)) (rowAt s.sp f.slots f.slots.length)) x := by
          intro b hb x hx
          have hxo : x.ok := (hfok.blocks b hb).ins x hx
          refine ⟨fun t regs hg hot => ⟨insS_inv hg.inv (fun hft hc => (hcalls t regs hg hot hft b hb x hx hc).inv) (hop b hb x hx), by rw [insS_len]; exact hg.len, insS_fit hg.fit hxo (hop b hb x hx) (fun hft hc => (hcalls t regs hg hot hft b hb x hx hc).fit) fun h25 => ?_⟩, fun t regs hg hot => insS_kept (hop b hb x hx) fun hft hc => (hcalls t regs hg hot hft b hb x hx hc).kept⟩
          have := hx1 b hb x hx
          unfold rightS at this
          simp only [Bool.and_eq_true, decide_eq_true_eq] at this
          have ht := this.2
          unfold rightT at ht
          rw [if_neg (by omega), if_neg (by omega), if_neg (by omega), if_neg (by omega), if_pos h25] at ht
          simp only [Bool.and_eq_true, decide_eq_true_eq] at ht
          have := hR.nf
          omega
        have hte : ∀ b ∈ f.blocks, ∀ x ∈ b.ins, InsTE B pb gb (go + n.toNat * 6) (rowAt s.sp f.slots f.slots.length) f okS (insS p (callsS p (callK p N d)) (rowAt s.sp f.slots f.slots.length)) x := by
          intro b hb x hx
          have hxo : x.ok := (hfok.blocks b hb).ins x hx
          refine ⟨fun t regs hg hot xb xo xcs xe A c hX hXl hXv hXa => ?_, (hres b hb x hx).good, (hres b hb x hx).kept⟩
          have hlen := hg.len
          refine ins_te B hd p pb pe P1 d1 P2 d2 hp hR.nf gb (go + n.toNat * 6) hFn f (by omega) t hg.inv regs _ hg.len hg.fit (rowAt_len _ _ _) x hxo (hx1 b hb x hx) xb xo xcs xe A c hX hXl hXv _ fun hft hc => ?_
          have i1 := stepS_inv hg.inv
          have hl1 := i1.leaks
          have hl2 := i1.steps
          have hl3 := i1.fuel
          exact calls_te B hd p pb pe P1 d1 P2 d2 hp gb (go + n.toNat * 6) hFn f (stepS t) (by omega) regs _ (by omega) x (hx1 b hb x hx) hc (hR.nargs f hfm b hb x hx) xb xo xcs xe A c hX hXl hXv hXa _ fun s' n' args' h1 h2 h3 => (hcall t regs hg hot hft b hb x hx s' n' args' h1 h2 h3).1
        have hbt := blocks_te B hd pb hpb gb (go + n.toNat * 6) f fcs fe F1 c1 F2 c2 F3 c3 hF hFn hFv (by omega) hBs (rowAt s.sp f.slots f.slots.length) okS hok _ hte (fun b hb => (hblk b hb).2) (hR.nin f hfm) f5 N (spDone s f) (regsS f args) hgood ho hs.steps
        obtain ⟨r1, r2, r3⟩ := blocksS_res hok hres (fun b hb => (hfok.blocks b hb).term) (k := N) (bi := 0) hgood ho
        unfold CallTE
        rw [e]
        generalize blocksS (insS p (callsS p (callK p N d)) (rowAt s.sp f.slots f.slots.length)) f N 0 (spDone s f) (regsS f args) = r at *
        have hdr : r.2.1.deep = s.deep + 1 ∨ (¬ r.2.1.fin = 0 ∧ r.2.1.deep = s.deep + 2) := by
          rcases r3.deep with ⟨k1, _⟩ | ⟨_, k2, k3⟩
          · exact .inl k1
          · exact .inr ⟨k2, by rw [k3]; show s.deep + 1 + 1 = _; omega⟩
        have hql : n.toNat < p.funcs.length := (List.getElem?_eq_some_iff.1 hfn).1
        refine ⟨call_te B hd p pb hpb pe P1 d1 P2 d2 hp s ⟨hd0.1, by omega⟩ n.toNat n (Int.toNat_of_nonneg hn0).symm hql args gb go hP1 f fcs fe F1 c1 F2 c2 F3 c3 hF hFn hFv hS (by omega) m hm (by omega) (by omega) r (by omega) (by omega) hbt (by omega), ⟨?_, r2, ?_⟩⟩
        · obtain ⟨a1, a2, a3, a4, a5, a6, a7⟩ := r1
          exact ⟨a1, a2, a3, a4, a5, a6, ⟨by show 0 ≤ r.2.1.deep - 1; omega, by show r.2.1.deep - 1 ≤ 101; omega⟩⟩
        · refine ⟨r3.fuel, r3.steps, ?_, rfl, r3.stack, r3.data⟩
          rcases hdr with h | ⟨h, h'⟩
          · exact .inl ⟨by show r.2.1.deep - 1 = _; omega, fun hc => absurd hs.fin hc⟩
          · exact .inr ⟨hs.fin, h, by show r.2.1.deep - 1 = _; omega⟩
end Go.Proofs.Ytjhloakacicdiaa
namespace Go.Proofs.Ytjhloakacicdiaa
open Go.AH
attribute [local irreducible] W RS
def putB : List Int → Nat → List Int → List Int
  | b, _, [] => b
  | b, o, v :: l => putB (b.set o v) (o + 1) l
theorem putB_len : ∀ (l : List Int) (b : List Int) (o : Nat), (putB b o l).length = b.length := by
  intro l
  induction l with
  | nil => intro b o; rfl
  | cons v l ih => intro b o; rw [putB, ih, List.length_set]
theorem putB_bytes : ∀ (l : List Int) (b : List Int) (o : Nat), setL (bytesC b) o (bytesC l) = bytesC (putB b o l) := by
  intro l
  induction l with
  | nil => intro b o; rw [show bytesC ([] : List Int) = [] from rfl, setL_nil]; rfl
  | cons v l ih =>
    intro b o
    rw [show bytesC (v :: l) = .int .u8 v :: bytesC l from rfl, setL_cons, putB, ← ih]
    congr 1
    unfold bytesC; rw [List.map_set]
structure DatS where
  b : List Int
  pub : List Int
  sec : List Int
def partLen (x : PartS) : Int := if x.kind = 0 then x.data.length else if x.kind = 1 then 8 else x.n
def partD (a : Int) (d : DatS) (x : PartS) : DatS :=
  if x.kind = 0 then { d with b := putB d.b a.toNat x.data }
  else if x.kind = 1 then { d with b := storeV d.b a.toNat (4194304 + 16 * x.n) 8 }
  else if x.kind = 2 then { d with b := putB d.b a.toNat (d.pub.take x.n.toNat), pub := d.pub.drop x.n.toNat }
  else { d with b := putB d.b a.toNat (d.sec.take x.n.toNat), sec := d.sec.drop x.n.toNat }
def partsD : List PartS → Int → DatS → DatS
  | [], _, d => d
  | x :: l, a, d => partsD l (a + partLen x) (partD a d x)
def globsD : List GlobS → DatS → DatS
  | [], d => d
  | g :: l, d => globsD l (partsD g.parts g.place d)
def dataS (p : ProgS) (pub sec : List Int) : List Int := (globsD p.globals ⟨List.replicate p.data.toNat 0, pub, sec⟩).b
theorem bytes_at {h : Hp} {b off : Nat} {l : List Int} (s : SlAt h (some ⟨b, off, none⟩) 1 l byteR) (hne : 0 < l.length) : ∃ ds e, h.m b = some ⟨⟨ds⟩, e⟩ ∧ off + l.length ≤ ds.length ∧ ∀ k, k ≤ l.length → takeV off k ds = bytesC (l.take k) := by
  obtain ⟨b', off', ds, e, he, hb, hl, hv⟩ := s.get (l.length - 1) _ (List.getElem?_eq_getElem (by omega))
  injection he with he
  injection he with e1 e2
  subst e1; subst e2
  refine ⟨ds, e, hb, by omega, fun k hk => ?_⟩
  rw [takeV_eq]
  apply List.ext_getElem?
  intro i
  unfold bytesC
  rw [List.getElem?_take, List.getElem?_map, List.getElem?_take]
  by_cases hi : i < k
  · rw [if_pos hi, if_pos hi, List.getElem?_drop]
    obtain ⟨b2, off2, ds2, e2, he2, hb2, hl2, hv2⟩ := s.get i _ (List.getElem?_eq_getElem (by omega))
    injection he2 with he2
    injection he2 with e1 e2
    subst e1; subst e2
    rw [hb] at hb2
    injection hb2 with hb2
    injection hb2 with hb3
    injection hb3 with hb3
    subst hb3
    have := take_nth (j := 0) hv2 (v := .int .u8 l[i]) rfl
    rw [Nat.mul_one, Nat.add_zero] at this
    rw [this, List.getElem?_eq_getElem (by omega)]; rfl
  · rw [if_neg hi, if_neg hi]; rfl
theorem SlAt.bytes_drop {h : Hp} {b off : Nat} {l : List Int} (s : SlAt h (some ⟨b, off, none⟩) 1 l byteR) (k : Nat) : SlAt h (some ⟨b, off + k * 1, none⟩) 1 (l.drop k) byteR := by
  refine ⟨fun i x hx => ?_⟩
  rw [List.getElem?_drop] at hx
  obtain ⟨b', off', ds, e, he, hb, hl, hv⟩ := s.get _ _ hx
  injection he with he
  injection he with e1 e2
  subst e1; subst e2
  refine ⟨b, off + k * 1, ds, e, rfl, hb, by omega, ?_⟩
  rw [show off + k * 1 + i * 1 = off + (k + i) * 1 by omega]; exact hv
structure InRow (h : Hp) (A : Option Addr) (n c : Nat) (l : List Int) : Prop where
  at_ : SlAt h A 1 l byteR
  len : n = l.length
  le : n ≤ c
  cap : c < capMark
  nil : A = none → c = 0
  spot : ∀ a, A = some a → a.spot = none
structure DX where
  b : List Int
  pub : List Int
  sec : List Int
  A1 : Option Addr
  n1 : Nat
  c1 : Nat
  A2 : Option Addr
  n2 : Nat
  c2 : Nat
def DX.d (x : DX) : DatS := ⟨x.b, x.pub, x.sec⟩
structure DX.ok (h : Hp) (n : Nat) (x : DX) : Prop where
  b : x.b.length = n
  pub : InRow h x.A1 x.n1 x.c1 x.pub
  sec : InRow h x.A2 x.n2 x.c2 x.sec
def dxL (x : DX) (_ : Nat → Nat) : List (Nat × Option Blk) := [(0, some ⟨⟨[.slice x.A1 x.n1 x.c1, .slice x.A2 x.n2 x.c2]⟩, 30⟩), (1, some ⟨⟨bytesC x.b⟩, 5⟩)]
theorem bytes_one (l : List Int) : (bytesC l).all (·.oneCell') = true := by
  unfold bytesC; rw [List.all_map, List.all_eq_true]; intro _ _; rfl
theorem InRow.drop {h : Hp} {b off n c k : Nat} {l : List Int} (r : InRow h (some ⟨b, off, none⟩) n c l) (hk : k ≤ n) : InRow h (some ⟨b, if c = k then off else off + k * 1, none⟩) (n - k) (c - k) (l.drop k) := by
  have h1 := r.len
  have h2 := r.le
  have h3 := r.cap
  refine ⟨?_, by rw [List.length_drop]; omega, by omega, by omega, (fun h => by cases h), fun a ha => by injection ha with ha; rw [← ha]⟩
  split
  · rw [List.drop_eq_nil_of_le (by omega)]; exact SlAt.nil
  · exact r.at_.bytes_drop k
theorem bytes_rep (n : Nat) : repL [.int .u8 0] n = bytesC (List.replicate n 0) := by
  rw [repL_one]; unfold bytesC; simp
set_option maxHeartbeats 8000000 in
set_option maxRecDepth 100000 in
theorem Data_tf (p : ProgS) (hr : p.globals.all (placedS p) = true) (hnf : p.funcs.length ≤ 1000000) (hgl : p.globals.length ≤ 1000000) (hpl : ∀ g ∈ p.globals, g.parts.length ≤ 1000000) (n : Nat) (hn : p.data = (n : Int)) (hn2 : n ≤ 1000000) (pb : Nat) (pe : TypeId) (P1 : Option Addr) (d1 : Nat) (P2 : Option Addr) (d2 : Nat) (h : Hp) (hp : ProgAt h pb p pe P1 d1 P2 d2)
    (A1 : Option Addr) (n1 c1 : Nat) (A2 : Option Addr) (n2 c2 : Nat) (pub sec : List Int) (hi1 : InRow h A1 n1 c1 pub) (hi2 : InRow h A2 n2 c2 sec) :
    TF Try.prog 34 ⟨[.pointer (some ⟨pb, 0, none⟩), .agg ⟨[.slice A1 n1 c1, .slice A2 n2 c2]⟩]⟩ h (.slice (some ⟨h.n, 0, none⟩) n n) (h.push ⟨⟨bytesC (dataS p pub sec)⟩, 5⟩) := by
  refine TF.dom fun hd => ?_
  have hpn := hd _ _ hp.m
  refine TF.ends (fn := Try.f34) (c := (Try.f34.body.getD .skip)) (Q := RowQ (fun _ => bytesC (dataS p pub sec)) 5 n n h) Try.func34 (by kernel_rfl) Try.ntmps34 (by kernel_rfl) ?_ (row_end fun v hv => by unfold bytesC at hv; obtain ⟨_, _, rfl⟩ := List.mem_map.1 hv; simp)
  conv => arg 2; whnf
  repeat (first | ((with_reducible apply RS.load1B); exact rfl; exact rfl; exact rfl; exact hp.m; exact hpn; exact rfl) | ((with_reducible apply (RS.makeSlice (n := n) (kx := .i64) (ky := .i64) (cs := bytesC (List.replicate n 0)))); exact rfl; exact rfl; exact (show _ = some (Value.int IntKind.i64 (n : Int)) from congrArg (fun z => some (Value.int IntKind.i64 z)) hn); exact (show _ = some (Value.int IntKind.i64 (n : Int)) from congrArg (fun z => some (Value.int IntKind.i64 z)) hn); exact rfl; exact rfl; (constructor <;> omega); exact bytes_rep n) | ((with_reducible apply RS.nilCheck); exact rfl; exact rfl; exact rfl) | ((with_reducible apply RS.move); exact rfl; exact rfl; exact rfl) | ((with_reducible apply RS.assign); exact rfl; exact rfl; exact rfl) | ((with_reducible apply RS.lenSl); exact rfl; exact rfl; exact rfl) | ((with_reducible apply RS.fieldAddr); exact rfl; exact rfl; exact rfl) | ((with_reducible apply RS.box); exact rfl; exact rfl; exact rfl) | ((with_reducible apply RS.nil); exact mixed; kernel_rfl) | ((with_reducible apply W.seq)) | ((with_reducible apply W.reg); kernel_rfl) | ((with_reducible apply W.block)) | ((with_reducible apply thenK_n)))
  refine W.loop (X := Nat × DX) (fun π y => [(3, .pointer (some ⟨π 0, 0, none⟩)), (5, .slice (some ⟨π 1, 0, none⟩) n n), (21, .slice P2 p.globals.length d2), (22, .int .i64 p.globals.length), (23, .int .i64 y.1)]) (fun _ => h) (fun π y => dxL y.2 π) (fun y => y.1 ≤ p.globals.length ∧ y.2.ok h n ∧ globsD (p.globals.drop y.1) y.2.d = globsD p.globals ⟨List.replicate n 0, pub, sec⟩) (fun y => p.globals.length - y.1) [0, 1] (0, ⟨List.replicate n 0, pub, sec, A1, n1, c1, A2, n2, c2⟩) ⟨Nat.zero_le _, ⟨List.length_replicate, hi1, hi2⟩, rfl⟩ (by (refine FitL.mk ?_ ?_ ?_ ?_ <;> (repeat' (first | exact trivial | exact rfl | (refine AllB.opt rfl rfl ?_) | apply And.intro)); done)) ?_
  rintro π ⟨gi, dx⟩ ⟨hgi, hdx, hD⟩
  dsimp only at hgi hdx hD ⊢
  by_cases hlt : gi < p.globals.length
  · obtain ⟨g, hg⟩ : ∃ g, p.globals[gi]? = some g := ⟨_, List.getElem?_eq_getElem hlt⟩
    obtain ⟨gb, go, gcs, ge, rfl, hG, hGl, GA, gc, hGv, hGp⟩ := hp.gs.get _ _ hg
    have hGn := hd _ _ hG
    have hgm := List.mem_of_getElem? hg
    have hgpl := hpl g hgm
    have hpla := List.all_eq_true.1 hr g hgm
    unfold placedS at hpla
    simp only [Bool.and_eq_true, decide_eq_true_eq] at hpla
    obtain ⟨⟨⟨⟨g1, g2⟩, g3⟩, g4⟩, g5⟩ := hpla
    rw [drop_get hg, globsD] at hD
    repeat (first | ((with_reducible apply RS.indexAddrS); exact rfl; exact rfl; exact rfl; exact rfl; exact rfl; omega) | ((with_reducible apply RS.loadNB); exact rfl; exact rfl; exact rfl; exact hG; exact hGn; exact hGl; exact hGv) | ((with_reducible apply RS.move); exact rfl; exact rfl; exact rfl) | ((with_reducible apply RS.assign); exact rfl; exact rfl; exact rfl) | ((with_reducible apply RS.cmpT); exact rfl; exact rfl; exact rfl; exact rfl; (simp only [cmpP]; omega)) | ((with_reducible apply RS.lenSl); exact rfl; exact rfl; exact rfl) | ((with_reducible apply RS.fieldAddr); exact rfl; exact rfl; exact rfl) | ((with_reducible apply RS.load1); exact rfl; exact rfl; exact rfl; exact rfl; exact rfl; exact rfl) | ((with_reducible apply RS.store); exact rfl; exact rfl; exact rfl; exact rfl; exact rfl; exact Nat.le_of_ble_eq_true rfl; exact rfl; exact rfl; exact rfl) | ((with_reducible apply RS.alloc); exact rfl; exact rfl) | ((with_reducible apply RS.nil); exact mixed; kernel_rfl) | ((with_reducible apply W.seq)) | ((with_reducible apply W.reg); kernel_rfl) | ((with_reducible apply W.block)) | ((with_reducible apply W.skip)) | ((with_reducible apply W.condT); kernel_rfl; exact rfl) | ((with_reducible apply thenK_n)))
    refine W.loop (X := Nat × Int × Int × DX) (fun π y => [(3, .pointer (some ⟨π 0, 0, none⟩)), (5, .slice (some ⟨π 1, 0, none⟩) n n), (21, .slice (some ⟨gb, go, none⟩) p.globals.length d2), (22, .int .i64 p.globals.length), (23, .int .i64 gi), (8, .int .i64 y.2.1), (30, .slice GA g.parts.length gc), (31, .int .i64 g.parts.length), (32, .int .i64 y.1)]) (fun _ => h) (fun π y => dxL y.2.2.2 π) (fun y => y.1 ≤ g.parts.length ∧ y.2.2.2.ok h n ∧ partsS p.funcs.length (g.parts.drop y.1) y.2.2.1 = true ∧ 0 ≤ y.2.1 ∧ y.2.1 + y.2.2.1 ≤ n ∧ globsD (p.globals.drop (gi + 1)) (partsD (g.parts.drop y.1) y.2.1 y.2.2.2.d) = globsD p.globals ⟨List.replicate n 0, pub, sec⟩) (fun y => g.parts.length - y.1) [0, 1] (0, g.place, g.size, dx) ⟨Nat.zero_le _, hdx, g5, g1, by show g.place + g.size ≤ (n : Int); omega, hD⟩ (by (refine FitL.mk ?_ ?_ ?_ ?_ <;> (repeat' (first | exact trivial | exact rfl | (refine AllB.opt rfl rfl ?_) | apply And.intro)); done)) ?_
    generalize globsD p.globals ⟨List.replicate n 0, pub, sec⟩ = R
    rintro π2 ⟨i, a, left, ⟨b, pub, sec, A1, n1, c1, A2, n2, c2⟩⟩ ⟨hi, ⟨hbl, hpub, hsec⟩, hP, ha0, hal, hD⟩
    dsimp only at hi hbl hpub hsec hP ha0 hal hD ⊢
    by_cases hlt2 : i < g.parts.length
    · obtain ⟨x, hx⟩ : ∃ x, g.parts[i]? = some x := ⟨_, List.getElem?_eq_getElem hlt2⟩
      obtain ⟨gpb, gpo, qcs, qe, rfl, hQ, hQl, XA, xc, hQv, hXd⟩ := hGp.get _ _ hx
      have hQn := hd _ _ hQ
      rw [drop_get hx, partsD] at hD
      rw [drop_get hx, partsS] at hP
      have ha : a = (a.toNat : Int) := by omega
      by_cases hk0 : x.kind = 0
      · have hpn' : partN p.funcs.length x = some (x.data.length : Int) := by unfold partN; rw [if_pos hk0]
        rw [hpn'] at hP
        dsimp only at hP
        have hle : ¬ ((x.data.length : Int) < 0 ∨ left < x.data.length) := fun hc => by rw [if_pos hc] at hP; cases hP
        rw [if_neg hle] at hP
        have hpl : partLen x = x.data.length := by unfold partLen; rw [if_pos hk0]
        rw [hpl] at hD
        unfold partD at hD
        rw [if_pos hk0] at hD
        by_cases hne : x.data.length = 0
        · have e0 : x.data = [] := List.eq_nil_of_length_eq_zero hne
          rw [e0] at hD
          repeat (first | ((with_reducible apply RS.indexAddrS); exact rfl; exact rfl; exact rfl; exact rfl; exact rfl; omega) | ((with_reducible apply RS.loadNB); exact rfl; exact rfl; exact rfl; exact hQ; exact hQn; exact hQl; exact hQv) | ((with_reducible apply (RS.sliceSL (b := π2 1) (L := a.toNat) (H := n) (off' := (if n = a.toNat then 0 else 0 + a.toNat * 1)))); exact rfl; exact rfl; exact rfl; exact ⟨_, _, rfl, ha⟩; exact rfl; omega; exact Nat.le_refl _; (show _ < 18446744073709551616; omega); exact rfl) | ((with_reducible apply RS.copy0); exact rfl; exact rfl; exact rfl; exact rfl; (first | omega | (dsimp only; omega))) | ((with_reducible apply RS.move); exact rfl; exact rfl; exact rfl) | ((with_reducible apply RS.assign); exact rfl; exact rfl; exact rfl) | ((with_reducible apply RS.cmpT); exact rfl; exact rfl; exact rfl; exact rfl; (simp only [cmpP]; omega)) | ((with_reducible apply RS.add1); exact rfl; exact rfl; exact rfl; exact rfl; omega) | ((with_reducible apply RS.binFit); exact rfl; exact rfl; exact rfl; exact rfl; exact rfl; omega) | ((with_reducible apply RS.fieldAddr); exact rfl; exact rfl; exact rfl) | ((with_reducible apply RS.load1); exact rfl; exact rfl; exact rfl; exact rfl; exact rfl; exact rfl) | ((with_reducible apply RS.store); exact rfl; exact rfl; exact rfl; exact rfl; exact rfl; exact Nat.le_of_ble_eq_true rfl; exact rfl; exact rfl; exact rfl) | ((with_reducible apply RS.alloc); exact rfl; exact rfl) | ((with_reducible apply RS.nil); exact mixed; kernel_rfl) | ((with_reducible apply W.seq)) | ((with_reducible apply W.reg); kernel_rfl) | ((with_reducible apply W.block)) | ((with_reducible apply W.skip)) | ((with_reducible apply W.condT); kernel_rfl; exact rfl) | ((with_reducible apply thenK_n)) | ((with_reducible apply blockK_n)))
          refine roundK_n (i + 1, a + ((0 : Nat) : Int), left - x.data.length, ⟨b, pub, sec, A1, n1, c1, A2, n2, c2⟩) [0, 1] rfl rfl ⟨by show i + 1 ≤ _; omega, ?_, hP, by dsimp only; omega, by dsimp only; omega, ?_⟩ (by show _ - (i + 1) < _ - i; omega) (by (refine FitL.mk ?_ ?_ ?_ ?_ <;> (repeat' (first | exact trivial | exact rfl | (refine AllB.opt rfl rfl ?_) | apply And.intro)); done))
          · exact ⟨hbl, hpub, hsec⟩
          · simpa [putB] using hD
        · have hXd' := hXd
          obtain ⟨_, _, _, _, hXA, _⟩ := hXd'.get 0 _ (List.getElem?_eq_getElem (by omega))
          subst hXA
          obtain ⟨ds, de, hQ2, hQ2l, htk⟩ := bytes_at hXd (by omega)
          have hQ2n := hd _ _ hQ2
          have hmin : min x.data.length (n - a.toNat) = x.data.length := by omega
          have hcp : ∀ o, setL (bytesC b) a.toNat (takeV o (min x.data.length (n - a.toNat) * 1) ds) = setL (bytesC b) a.toNat (takeV o x.data.length ds) := fun o => by rw [hmin, Nat.mul_one]
          repeat (first | ((with_reducible apply RS.indexAddrS); exact rfl; exact rfl; exact rfl; exact rfl; exact rfl; omega) | ((with_reducible apply RS.loadNB); exact rfl; exact rfl; exact rfl; exact hQ; exact hQn; exact hQl; exact hQv) | ((with_reducible apply (RS.sliceSL (b := π2 1) (L := a.toNat) (H := n) (off' := a.toNat))); exact rfl; exact rfl; exact rfl; exact ⟨_, _, rfl, ha⟩; exact rfl; omega; exact Nat.le_refl _; (show _ < 18446744073709551616; omega); (rw [if_neg (by omega)]; omega)) | ((with_reducible apply (RS.copyLB (i := 1) (cs' := bytesC (putB b a.toNat x.data)))); exact rfl; exact rfl; exact rfl; exact rfl; exact rfl; exact rfl; exact hQ2; exact hQ2n; (unfold bytesC; rw [List.length_map]; dsimp only; omega); (first | omega | (dsimp only; omega)); (rw [hmin, Nat.mul_one, htk _ (Nat.le_refl _)]; exact bytes_one _); (refine (hcp _).trans ?_; rw [htk _ (Nat.le_refl _), List.take_length, putB_bytes])) | ((with_reducible apply RS.move); exact rfl; exact rfl; exact rfl) | ((with_reducible apply RS.assign); exact rfl; exact rfl; exact rfl) | ((with_reducible apply RS.cmpT); exact rfl; exact rfl; exact rfl; exact rfl; (simp only [cmpP]; omega)) | ((with_reducible apply RS.add1); exact rfl; exact rfl; exact rfl; exact rfl; omega) | ((with_reducible apply RS.binFit); exact rfl; exact rfl; exact rfl; exact rfl; exact rfl; omega) | ((with_reducible apply RS.fieldAddr); exact rfl; exact rfl; exact rfl) | ((with_reducible apply RS.load1); exact rfl; exact rfl; exact rfl; exact rfl; exact rfl; exact rfl) | ((with_reducible apply RS.store); exact rfl; exact rfl; exact rfl; exact rfl; exact rfl; exact Nat.le_of_ble_eq_true rfl; exact rfl; exact rfl; exact rfl) | ((with_reducible apply RS.alloc); exact rfl; exact rfl) | ((with_reducible apply RS.nil); exact mixed; kernel_rfl) | ((with_reducible apply W.seq)) | ((with_reducible apply W.reg); kernel_rfl) | ((with_reducible apply W.block)) | ((with_reducible apply W.skip)) | ((with_reducible apply W.condT); kernel_rfl; exact rfl) | ((with_reducible apply thenK_n)) | ((with_reducible apply blockK_n)))
          refine roundK_n (i + 1, a + ((min x.data.length (n - a.toNat) : Nat) : Int), left - x.data.length, ⟨putB b a.toNat x.data, pub, sec, A1, n1, c1, A2, n2, c2⟩) [0, 1] rfl rfl ⟨by show i + 1 ≤ _; omega, ?_, hP, by dsimp only; omega, by dsimp only; omega, ?_⟩ (by show _ - (i + 1) < _ - i; omega) (by (refine FitL.mk ?_ ?_ ?_ ?_ <;> (repeat' (first | exact trivial | exact rfl | (refine AllB.opt rfl rfl ?_) | apply And.intro)); done))
          · exact ⟨(putB_len _ _ _).trans hbl, hpub, hsec⟩
          · rw [hmin]; exact hD
      by_cases hk1 : x.kind = 1
      · by_cases hr2 : x.n < 0 ∨ (p.funcs.length : Int) ≤ x.n
        · have hpn' : partN p.funcs.length x = none := by unfold partN; rw [if_neg hk0, if_pos hk1, if_pos hr2]
          rw [hpn'] at hP; cases hP
        have hpn' : partN p.funcs.length x = some 8 := by unfold partN; rw [if_neg hk0, if_pos hk1, if_neg hr2]
        rw [hpn'] at hP
        dsimp only at hP
        have hle : ¬ ((8 : Int) < 0 ∨ left < 8) := fun hc => by rw [if_pos hc] at hP; cases hP
        rw [if_neg hle] at hP
        have hpl : partLen x = 8 := by unfold partLen; rw [if_neg hk0, if_pos hk1]
        rw [hpl] at hD
        unfold partD at hD
        rw [if_neg hk0, if_pos hk1] at hD
        repeat (first | ((with_reducible apply RS.indexAddrS); exact rfl; exact rfl; exact rfl; exact rfl; exact rfl; omega) | ((with_reducible apply RS.loadNB); exact rfl; exact rfl; exact rfl; exact hQ; exact hQn; exact hQl; exact hQv) | ((with_reducible apply RS.move); exact rfl; exact rfl; exact rfl) | ((with_reducible apply RS.assign); exact rfl; exact rfl; exact rfl) | ((with_reducible apply RS.cmpT); exact rfl; exact rfl; exact rfl; exact rfl; (simp only [cmpP]; omega)) | ((with_reducible apply RS.cmpF); exact rfl; exact rfl; exact rfl; exact rfl; (simp only [cmpN]; omega)) | ((with_reducible apply RS.binFit); exact rfl; exact rfl; exact rfl; exact rfl; exact rfl; omega) | ((with_reducible apply RS.fieldAddr); exact rfl; exact rfl; exact rfl) | ((with_reducible apply RS.load1); exact rfl; exact rfl; exact rfl; exact rfl; exact rfl; exact rfl) | ((with_reducible apply RS.store); exact rfl; exact rfl; exact rfl; exact rfl; exact rfl; exact Nat.le_of_ble_eq_true rfl; exact rfl; exact rfl; exact rfl) | ((with_reducible apply RS.alloc); exact rfl; exact rfl) | ((with_reducible apply RS.nil); exact mixed; kernel_rfl) | ((with_reducible apply W.seq)) | ((with_reducible apply W.reg); kernel_rfl) | ((with_reducible apply W.block)) | ((with_reducible apply W.skip)) | ((with_reducible apply W.condT); kernel_rfl; exact rfl) | ((with_reducible apply W.condF); kernel_rfl; exact rfl) | ((with_reducible apply thenK_n)))
        refine W.loop (X := Nat) (fun π j => [(3, .pointer (some ⟨π 0, 0, none⟩)), (5, .slice (some ⟨π 1, 0, none⟩) n n), (21, .slice (some ⟨gb, go, none⟩) p.globals.length d2), (22, .int .i64 p.globals.length), (23, .int .i64 gi), (8, .int .i64 a), (30, .slice (some ⟨gpb, gpo, none⟩) g.parts.length gc), (31, .int .i64 g.parts.length), (32, .int .i64 i), (11, .int .i64 (4194304 + 16 * x.n)), (54, .int .i64 j)]) (fun _ => h) (fun π j => dxL ⟨storeV b a.toNat (4194304 + 16 * x.n) j, pub, sec, A1, n1, c1, A2, n2, c2⟩ π) (fun j => j ≤ 8) (fun j => 8 - j) [0, 1] 0 (Nat.zero_le _) (by (refine FitL.mk ?_ ?_ ?_ ?_ <;> (repeat' (first | exact trivial | exact rfl | (refine AllB.opt rfl rfl ?_) | apply And.intro)); done)) ?_
        intro π3 j hj
        dsimp only at hj ⊢
        by_cases hj8 : j < 8
        · have hset : setL (bytesC (storeV b a.toNat (4194304 + 16 * x.n) j)) (0 + (a.toNat + j) * 1) [.int .u8 (storeByte (4194304 + 16 * x.n) j)] = bytesC (storeV b a.toNat (4194304 + 16 * x.n) (j + 1)) := by
            rw [Nat.zero_add, Nat.mul_one]; exact setL_bytes _ _ _
          have hfit : 0 + (a.toNat + j) * 1 + 1 ≤ (bytesC (storeV b a.toNat (4194304 + 16 * x.n) j)).length := by
            unfold bytesC; rw [List.length_map, storeV_len]; omega
          repeat (first | ((with_reducible apply RS.shr); exact rfl; exact rfl; exact rfl; exact rfl; omega) | ((with_reducible apply (RS.indexAddrS (n := a.toNat + j))); exact rfl; exact rfl; exact rfl; exact rfl; (first | omega | (dsimp only; omega)); omega) | ((with_reducible apply RS.store); exact rfl; exact rfl; exact rfl; exact rfl; exact rfl; exact hfit; exact rfl; exact rfl; exact hset) | ((with_reducible apply RS.move); exact rfl; exact rfl; exact rfl) | ((with_reducible apply RS.assign); exact rfl; exact rfl; exact rfl) | ((with_reducible apply RS.cmpT); exact rfl; exact rfl; exact rfl; exact rfl; (simp only [cmpP]; omega)) | ((with_reducible apply RS.add1); exact rfl; exact rfl; exact rfl; exact rfl; omega) | ((with_reducible apply RS.binFit); exact rfl; exact rfl; exact rfl; exact rfl; exact rfl; omega) | ((with_reducible apply RS.convI); exact rfl; exact rfl; exact rfl) | ((with_reducible apply RS.nil); exact mixed; kernel_rfl) | ((with_reducible apply W.seq)) | ((with_reducible apply W.reg); kernel_rfl) | ((with_reducible apply W.block)) | ((with_reducible apply W.skip)) | ((with_reducible apply W.condT); kernel_rfl; exact rfl) | ((with_reducible apply thenK_n)) | ((with_reducible apply blockK_n)))
          exact roundK_n (j + 1) [0, 1] rfl rfl (by show j + 1 ≤ 8; omega) (by show 8 - (j + 1) < 8 - j; omega) (by (refine FitL.mk ?_ ?_ ?_ ?_ <;> (repeat' (first | exact trivial | exact rfl | (refine AllB.opt rfl rfl ?_) | apply And.intro)); done))
        · have hj9 : j = 8 := by omega
          subst hj9
          repeat (first | ((with_reducible apply RS.move); exact rfl; exact rfl; exact rfl) | ((with_reducible apply RS.assign); exact rfl; exact rfl; exact rfl) | ((with_reducible apply RS.cmpF); exact rfl; exact rfl; exact rfl; exact rfl; (simp only [cmpN]; omega)) | ((with_reducible apply RS.add1); exact rfl; exact rfl; exact rfl; exact rfl; omega) | ((with_reducible apply RS.binFit); exact rfl; exact rfl; exact rfl; exact rfl; exact rfl; omega) | ((with_reducible apply RS.nil); exact mixed; kernel_rfl) | ((with_reducible apply W.seq)) | ((with_reducible apply W.reg); kernel_rfl) | ((with_reducible apply W.exit)) | ((with_reducible apply W.condF); kernel_rfl; exact rfl) | ((with_reducible apply thenK_n)) | ((with_reducible apply thenK_e)) | ((with_reducible apply blockK_n)) | ((with_reducible apply blockK_hit); exact rfl) | ((with_reducible apply roundK_e)))
          refine roundK_n (i + 1, a + 8, left - 8, ⟨storeV b a.toNat (4194304 + 16 * x.n) 8, pub, sec, A1, n1, c1, A2, n2, c2⟩) [0, 1] rfl rfl ⟨by show i + 1 ≤ _; omega, ?_, hP, by dsimp only; omega, by dsimp only; omega, ?_⟩ (by show _ - (i + 1) < _ - i; omega) (by (refine FitL.mk ?_ ?_ ?_ ?_ <;> (repeat' (first | exact trivial | exact rfl | (refine AllB.opt rfl rfl ?_) | apply And.intro)); done))
          · exact ⟨(storeV_len _ _ _ _).trans hbl, hpub, hsec⟩
          · exact hD
      by_cases hk2 : x.kind = 2
      · have hpn' : partN p.funcs.length x = some x.n := by unfold partN; rw [if_neg (by omega), if_neg (by omega), if_pos (by omega)]
        rw [hpn'] at hP
        dsimp only at hP
        have hle : ¬ (x.n < 0 ∨ left < x.n) := fun hc => by rw [if_pos hc] at hP; cases hP
        rw [if_neg hle] at hP
        obtain ⟨m, hm⟩ : ∃ m : Nat, x.n = m := ⟨x.n.toNat, by omega⟩
        have hpl : partLen x = x.n := by unfold partLen; rw [if_neg (by omega), if_neg (by omega)]
        rw [hpl] at hD
        unfold partD at hD
        rw [if_neg (by omega), if_neg (by omega), if_pos (by omega)] at hD
        rw [hm, Int.toNat_natCast] at hD
        rw [← hm] at hD
        by_cases hk0 : min n1 m = 0
        · have e1 : pub.take m = [] := by
            have := hpub.len
            by_cases h0 : m = 0
            · rw [h0]; rfl
            · rw [List.eq_nil_of_length_eq_zero (l := pub) (by omega)]; simp
          have e2 : pub.drop m = pub := by
            have := hpub.len
            by_cases h0 : m = 0
            · rw [h0]; rfl
            · rw [List.eq_nil_of_length_eq_zero (l := pub) (by omega)]; simp
          simp only [DX.d, e1, e2, putB] at hD
          cases hA : A1 with
          | none =>
            have hc0 := hpub.nil hA
            have hn0 : n1 = 0 := by have := hpub.le; omega
            subst hA; subst hc0; subst hn0
            repeat (first | ((with_reducible apply RS.indexAddrS); exact rfl; exact rfl; exact rfl; exact rfl; exact rfl; omega) | ((with_reducible apply RS.loadNB); exact rfl; exact rfl; exact rfl; exact hQ; exact hQn; exact hQl; exact hQv) | ((with_reducible apply (RS.sliceSL (b := π2 1) (L := a.toNat) (H := a.toNat + m) (off' := (if n = a.toNat then 0 else 0 + a.toNat * 1)))); exact rfl; exact rfl; exact rfl; exact ⟨_, _, rfl, ha⟩; exact ⟨_, _, rfl, (show a + x.n = _ by omega)⟩; omega; omega; (show _ < 18446744073709551616; omega); exact rfl) | ((with_reducible apply RS.copy0); exact rfl; exact rfl; exact rfl; exact rfl; (first | omega | (dsimp only; omega))) | ((with_reducible apply RS.sliceNil); exact rfl; exact rfl; exact rfl; exact ⟨_, _, rfl, rfl⟩; exact rfl) | ((with_reducible apply RS.move); exact rfl; exact rfl; exact rfl) | ((with_reducible apply RS.assign); exact rfl; exact rfl; exact rfl) | ((with_reducible apply RS.cmpT); exact rfl; exact rfl; exact rfl; exact rfl; (simp only [cmpP]; omega)) | ((with_reducible apply RS.cmpF); exact rfl; exact rfl; exact rfl; exact rfl; (simp only [cmpN]; omega)) | ((with_reducible apply RS.add1); exact rfl; exact rfl; exact rfl; exact rfl; omega) | ((with_reducible apply RS.binFit); exact rfl; exact rfl; exact rfl; exact rfl; exact rfl; omega) | ((with_reducible apply RS.fieldAddr); exact rfl; exact rfl; exact rfl) | ((with_reducible apply RS.load1); exact rfl; exact rfl; exact rfl; exact rfl; exact rfl; exact rfl) | ((with_reducible apply RS.store); exact rfl; exact rfl; exact rfl; exact rfl; exact rfl; exact Nat.le_of_ble_eq_true rfl; exact rfl; exact rfl; exact rfl) | ((with_reducible apply RS.alloc); exact rfl; exact rfl) | ((with_reducible apply RS.nil); exact mixed; kernel_rfl) | ((with_reducible apply W.seq)) | ((with_reducible apply W.reg); kernel_rfl) | ((with_reducible apply W.block)) | ((with_reducible apply W.skip)) | ((with_reducible apply W.condT); kernel_rfl; exact rfl) | ((with_reducible apply W.condF); kernel_rfl; exact rfl) | ((with_reducible apply thenK_n)) | ((with_reducible apply blockK_n)))
            refine roundK_n (i + 1, a + x.n, left - x.n, ⟨b, pub, sec, none, 0, 0, A2, n2, c2⟩) [0, 1] rfl rfl ⟨by show i + 1 ≤ _; omega, ?_, hP, by dsimp only; omega, by dsimp only; omega, ?_⟩ (by show _ - (i + 1) < _ - i; omega) (by (refine FitL.mk ?_ ?_ ?_ ?_ <;> (repeat' (first | exact trivial | exact rfl | (refine AllB.opt rfl rfl ?_) | apply And.intro)); done))
            · exact ⟨hbl, hpub, hsec⟩
            · exact hD
          | some q =>
            have hq := hpub.spot q hA
            obtain ⟨qb, qo, qs⟩ := q
            dsimp only at hq
            subst hq; subst hA
            have hle2 := hpub.le
            have hcm := hpub.cap
            repeat (first | ((with_reducible apply RS.indexAddrS); exact rfl; exact rfl; exact rfl; exact rfl; exact rfl; omega) | ((with_reducible apply RS.loadNB); exact rfl; exact rfl; exact rfl; exact hQ; exact hQn; exact hQl; exact hQv) | ((with_reducible apply (RS.sliceSL (b := π2 1) (L := a.toNat) (H := a.toNat + m) (off' := (if n = a.toNat then 0 else 0 + a.toNat * 1)))); exact rfl; exact rfl; exact rfl; exact ⟨_, _, rfl, ha⟩; exact ⟨_, _, rfl, (show a + x.n = _ by omega)⟩; omega; omega; (show _ < 18446744073709551616; omega); exact rfl) | ((with_reducible apply RS.copy0); exact rfl; exact rfl; exact rfl; exact rfl; (first | omega | (dsimp only; omega))) | ((with_reducible apply (RS.sliceSL (b := qb) (L := 0) (H := n1) (off' := qo))); exact rfl; exact rfl; exact rfl; exact ⟨_, _, rfl, rfl⟩; exact rfl; omega; omega; exact hcm; (split <;> omega)) | ((with_reducible apply RS.move); exact rfl; exact rfl; exact rfl) | ((with_reducible apply RS.assign); exact rfl; exact rfl; exact rfl) | ((with_reducible apply RS.cmpT); exact rfl; exact rfl; exact rfl; exact rfl; (simp only [cmpP]; omega)) | ((with_reducible apply RS.cmpF); exact rfl; exact rfl; exact rfl; exact rfl; (simp only [cmpN]; omega)) | ((with_reducible apply RS.add1); exact rfl; exact rfl; exact rfl; exact rfl; omega) | ((with_reducible apply RS.binFit); exact rfl; exact rfl; exact rfl; exact rfl; exact rfl; omega) | ((with_reducible apply RS.fieldAddr); exact rfl; exact rfl; exact rfl) | ((with_reducible apply RS.load1); exact rfl; exact rfl; exact rfl; exact rfl; exact rfl; exact rfl) | ((with_reducible apply RS.store); exact rfl; exact rfl; exact rfl; exact rfl; exact rfl; exact Nat.le_of_ble_eq_true rfl; exact rfl; exact rfl; exact rfl) | ((with_reducible apply RS.alloc); exact rfl; exact rfl) | ((with_reducible apply RS.nil); exact mixed; kernel_rfl) | ((with_reducible apply W.seq)) | ((with_reducible apply W.reg); kernel_rfl) | ((with_reducible apply W.block)) | ((with_reducible apply W.skip)) | ((with_reducible apply W.condT); kernel_rfl; exact rfl) | ((with_reducible apply W.condF); kernel_rfl; exact rfl) | ((with_reducible apply thenK_n)) | ((with_reducible apply blockK_n)))
            refine roundK_n (i + 1, a + x.n, left - x.n, ⟨b, pub, sec, some ⟨qb, qo, none⟩, n1, c1, A2, n2, c2⟩) [0, 1] rfl rfl ⟨by show i + 1 ≤ _; omega, ?_, hP, by dsimp only; omega, by dsimp only; omega, ?_⟩ (by show _ - (i + 1) < _ - i; omega) (by (refine FitL.mk ?_ ?_ ?_ ?_ <;> (repeat' (first | exact trivial | exact rfl | (refine AllB.opt rfl rfl ?_) | apply And.intro)); done))
            · exact ⟨hbl, hpub, hsec⟩
            · exact hD
        · have hn0 : 0 < pub.length := by have := hpub.len; omega
          have hle2 := hpub.le
          have hcm := hpub.cap
          have hnl := hpub.len
          cases hA : A1 with
          | none => have := hpub.nil hA; omega
          | some q =>
            have hq := hpub.spot q hA
            obtain ⟨qb, qo, qs⟩ := q
            dsimp only at hq
            subst hq; subst hA
            obtain ⟨ds, de, hQ2, hQ2l, htk⟩ := bytes_at hpub.at_ hn0
            have hQ2n := hd _ _ hQ2
            have e3 : pub.take (min n1 (a.toNat + m - a.toNat)) = pub.take m := by
              rw [List.take_eq_take_iff]; omega
            have e4 : pub.drop (min n1 (a.toNat + m - a.toNat)) = pub.drop m := by
              by_cases h0 : m ≤ n1
              · rw [show min n1 (a.toNat + m - a.toNat) = m by omega]
              · rw [List.drop_eq_nil_of_le (by omega), List.drop_eq_nil_of_le (by omega)]
            have hcp : setL (bytesC b) a.toNat (takeV qo ((min n1 (a.toNat + m - a.toNat)) * 1) ds) = bytesC (putB b a.toNat (pub.take m)) := by
              rw [Nat.mul_one, htk _ (by omega), e3, putB_bytes]
            repeat (first | ((with_reducible apply RS.indexAddrS); exact rfl; exact rfl; exact rfl; exact rfl; exact rfl; omega) | ((with_reducible apply RS.loadNB); exact rfl; exact rfl; exact rfl; exact hQ; exact hQn; exact hQl; exact hQv) | ((with_reducible apply (RS.sliceSL (b := π2 1) (L := a.toNat) (H := a.toNat + m) (off' := a.toNat))); exact rfl; exact rfl; exact rfl; exact ⟨_, _, rfl, ha⟩; exact ⟨_, _, rfl, (show a + x.n = _ by omega)⟩; omega; omega; (show _ < 18446744073709551616; omega); (rw [if_neg (by omega)]; omega)) | ((with_reducible apply (RS.copyLB (i := 1) (cs' := bytesC (putB b a.toNat (pub.take m))))); exact rfl; exact rfl; exact rfl; exact rfl; exact rfl; exact rfl; exact hQ2; exact hQ2n; (unfold bytesC; rw [List.length_map]; dsimp only; omega); (first | omega | (dsimp only; omega)); (dsimp only; rw [Nat.mul_one, htk _ (by omega)]; exact bytes_one _); exact hcp) | ((with_reducible apply (RS.sliceSL (b := qb) (L := min n1 (a.toNat + m - a.toNat)) (H := n1) (off' := (if c1 = min n1 (a.toNat + m - a.toNat) then qo else qo + (min n1 (a.toNat + m - a.toNat)) * 1)))); exact rfl; exact rfl; exact rfl; exact ⟨_, _, rfl, rfl⟩; exact rfl; omega; omega; exact hcm; exact rfl) | ((with_reducible apply RS.move); exact rfl; exact rfl; exact rfl) | ((with_reducible apply RS.assign); exact rfl; exact rfl; exact rfl) | ((with_reducible apply RS.cmpT); exact rfl; exact rfl; exact rfl; exact rfl; (simp only [cmpP]; omega)) | ((with_reducible apply RS.cmpF); exact rfl; exact rfl; exact rfl; exact rfl; (simp only [cmpN]; omega)) | ((with_reducible apply RS.add1); exact rfl; exact rfl; exact rfl; exact rfl; omega) | ((with_reducible apply RS.binFit); exact rfl; exact rfl; exact rfl; exact rfl; exact rfl; omega) | ((with_reducible apply RS.fieldAddr); exact rfl; exact rfl; exact rfl) | ((with_reducible apply RS.load1); exact rfl; exact rfl; exact rfl; exact rfl; exact rfl; exact rfl) | ((with_reducible apply RS.store); exact rfl; exact rfl; exact rfl; exact rfl; exact rfl; exact Nat.le_of_ble_eq_true rfl; exact rfl; exact rfl; exact rfl) | ((with_reducible apply RS.alloc); exact rfl; exact rfl) | ((with_reducible apply RS.nil); exact mixed; kernel_rfl) | ((with_reducible apply W.seq)) | ((with_reducible apply W.reg); kernel_rfl) | ((with_reducible apply W.block)) | ((with_reducible apply W.skip)) | ((with_reducible apply W.condT); kernel_rfl; exact rfl) | ((with_reducible apply W.condF); kernel_rfl; exact rfl) | ((with_reducible apply thenK_n)) | ((with_reducible apply blockK_n)))
            refine roundK_n (i + 1, a + x.n, left - x.n, ⟨putB b a.toNat (pub.take m), pub.drop (min n1 (a.toNat + m - a.toNat)), sec, some ⟨qb, if c1 = min n1 (a.toNat + m - a.toNat) then qo else qo + (min n1 (a.toNat + m - a.toNat)) * 1, none⟩, n1 - (min n1 (a.toNat + m - a.toNat)), c1 - (min n1 (a.toNat + m - a.toNat)), A2, n2, c2⟩) [0, 1] rfl rfl ⟨by show i + 1 ≤ _; omega, ?_, hP, by dsimp only; omega, by dsimp only; omega, ?_⟩ (by show _ - (i + 1) < _ - i; omega) (by (refine FitL.mk ?_ ?_ ?_ ?_ <;> (repeat' (first | exact trivial | exact rfl | (refine AllB.opt rfl rfl ?_) | apply And.intro)); done))
            · exact ⟨(putB_len _ _ _).trans hbl, InRow.drop hpub (by omega), hsec⟩
            · simp only [DX.d, e4]; exact hD
      have hk3 : x.kind = 3 := by
        by_cases hk3 : x.kind = 3
        · exact hk3
        · have : partN p.funcs.length x = none := by unfold partN; rw [if_neg hk0, if_neg hk1, if_neg (by omega)]
          rw [this] at hP; cases hP
      have hdummy : True := trivial
      refine (fun _ => ?_) hdummy
      by_cases hk4 : x.kind = 3
      · have hpn' : partN p.funcs.length x = some x.n := by unfold partN; rw [if_neg (by omega), if_neg (by omega), if_pos (by omega)]
        rw [hpn'] at hP
        dsimp only at hP
        have hle : ¬ (x.n < 0 ∨ left < x.n) := fun hc => by rw [if_pos hc] at hP; cases hP
        rw [if_neg hle] at hP
        obtain ⟨m, hm⟩ : ∃ m : Nat, x.n = m := ⟨x.n.toNat, by omega⟩
        have hpl : partLen x = x.n := by unfold partLen; rw [if_neg (by omega), if_neg (by omega)]
        rw [hpl] at hD
        unfold partD at hD
        rw [if_neg (by omega), if_neg (by omega), if_neg (by omega)] at hD
        rw [hm, Int.toNat_natCast] at hD
        rw [← hm] at hD
        by_cases hk0 : min n2 m = 0
        · have e1 : sec.take m = [] := by
            have := hsec.len
            by_cases h0 : m = 0
            · rw [h0]; rfl
            · rw [List.eq_nil_of_length_eq_zero (l := sec) (by omega)]; simp
          have e2 : sec.drop m = sec := by
            have := hsec.len
            by_cases h0 : m = 0
            · rw [h0]; rfl
            · rw [List.eq_nil_of_length_eq_zero (l := sec) (by omega)]; simp
          simp only [DX.d, e1, e2, putB] at hD
          cases hA : A2 with
          | none =>
            have hc0 := hsec.nil hA
            have hn0 : n2 = 0 := by have := hsec.le; omega
            subst hA; subst hc0; subst hn0
            repeat (first | ((with_reducible apply RS.indexAddrS); exact rfl; exact rfl; exact rfl; exact rfl; exact rfl; omega) | ((with_reducible apply RS.loadNB); exact rfl; exact rfl; exact rfl; exact hQ; exact hQn; exact hQl; exact hQv) | ((with_reducible apply (RS.sliceSL (b := π2 1) (L := a.toNat) (H := a.toNat + m) (off' := (if n = a.toNat then 0 else 0 + a.toNat * 1)))); exact rfl; exact rfl; exact rfl; exact ⟨_, _, rfl, ha⟩; exact ⟨_, _, rfl, (show a + x.n = _ by omega)⟩; omega; omega; (show _ < 18446744073709551616; omega); exact rfl) | ((with_reducible apply RS.copy0); exact rfl; exact rfl; exact rfl; exact rfl; (first | omega | (dsimp only; omega))) | ((with_reducible apply RS.sliceNil); exact rfl; exact rfl; exact rfl; exact ⟨_, _, rfl, rfl⟩; exact rfl) | ((with_reducible apply RS.move); exact rfl; exact rfl; exact rfl) | ((with_reducible apply RS.assign); exact rfl; exact rfl; exact rfl) | ((with_reducible apply RS.cmpT); exact rfl; exact rfl; exact rfl; exact rfl; (simp only [cmpP]; omega)) | ((with_reducible apply RS.cmpF); exact rfl; exact rfl; exact rfl; exact rfl; (simp only [cmpN]; omega)) | ((with_reducible apply RS.add1); exact rfl; exact rfl; exact rfl; exact rfl; omega) | ((with_reducible apply RS.binFit); exact rfl; exact rfl; exact rfl; exact rfl; exact rfl; omega) | ((with_reducible apply RS.fieldAddr); exact rfl; exact rfl; exact rfl) | ((with_reducible apply RS.load1); exact rfl; exact rfl; exact rfl; exact rfl; exact rfl; exact rfl) | ((with_reducible apply RS.store); exact rfl; exact rfl; exact rfl; exact rfl; exact rfl; exact Nat.le_of_ble_eq_true rfl; exact rfl; exact rfl; exact rfl) | ((with_reducible apply RS.alloc); exact rfl; exact rfl) | ((with_reducible apply RS.nil); exact mixed; kernel_rfl) | ((with_reducible apply W.seq)) | ((with_reducible apply W.reg); kernel_rfl) | ((with_reducible apply W.block)) | ((with_reducible apply W.skip)) | ((with_reducible apply W.condT); kernel_rfl; exact rfl) | ((with_reducible apply W.condF); kernel_rfl; exact rfl) | ((with_reducible apply thenK_n)) | ((with_reducible apply blockK_n)))
            refine roundK_n (i + 1, a + x.n, left - x.n, ⟨b, pub, sec, A1, n1, c1, none, 0, 0⟩) [0, 1] rfl rfl ⟨by show i + 1 ≤ _; omega, ?_, hP, by dsimp only; omega, by dsimp only; omega, ?_⟩ (by show _ - (i + 1) < _ - i; omega) (by (refine FitL.mk ?_ ?_ ?_ ?_ <;> (repeat' (first | exact trivial | exact rfl | (refine AllB.opt rfl rfl ?_) | apply And.intro)); done))
            · exact ⟨hbl, hpub, hsec⟩
            · exact hD
          | some q =>
            have hq := hsec.spot q hA
            obtain ⟨qb, qo, qs⟩ := q
            dsimp only at hq
            subst hq; subst hA
            have hle2 := hsec.le
            have hcm := hsec.cap
            repeat (first | ((with_reducible apply RS.indexAddrS); exact rfl; exact rfl; exact rfl; exact rfl; exact rfl; omega) | ((with_reducible apply RS.loadNB); exact rfl; exact rfl; exact rfl; exact hQ; exact hQn; exact hQl; exact hQv) | ((with_reducible apply (RS.sliceSL (b := π2 1) (L := a.toNat) (H := a.toNat + m) (off' := (if n = a.toNat then 0 else 0 + a.toNat * 1)))); exact rfl; exact rfl; exact rfl; exact ⟨_, _, rfl, ha⟩; exact ⟨_, _, rfl, (show a + x.n = _ by omega)⟩; omega; omega; (show _ < 18446744073709551616; omega); exact rfl) | ((with_reducible apply RS.copy0); exact rfl; exact rfl; exact rfl; exact rfl; (first | omega | (dsimp only; omega))) | ((with_reducible apply (RS.sliceSL (b := qb) (L := 0) (H := n2) (off' := qo))); exact rfl; exact rfl; exact rfl; exact ⟨_, _, rfl, rfl⟩; exact rfl; omega; omega; exact hcm; (split <;> omega)) | ((with_reducible apply RS.move); exact rfl; exact rfl; exact rfl) | ((with_reducible apply RS.assign); exact rfl; exact rfl; exact rfl) | ((with_reducible apply RS.cmpT); exact rfl; exact rfl; exact rfl; exact rfl; (simp only [cmpP]; omega)) | ((with_reducible apply RS.cmpF); exact rfl; exact rfl; exact rfl; exact rfl; (simp only [cmpN]; omega)) | ((with_reducible apply RS.add1); exact rfl; exact rfl; exact rfl; exact rfl; omega) | ((with_reducible apply RS.binFit); exact rfl; exact rfl; exact rfl; exact rfl; exact rfl; omega) | ((with_reducible apply RS.fieldAddr); exact rfl; exact rfl; exact rfl) | ((with_reducible apply RS.load1); exact rfl; exact rfl; exact rfl; exact rfl; exact rfl; exact rfl) | ((with_reducible apply RS.store); exact rfl; exact rfl; exact rfl; exact rfl; exact rfl; exact Nat.le_of_ble_eq_true rfl; exact rfl; exact rfl; exact rfl) | ((with_reducible apply RS.alloc); exact rfl; exact rfl) | ((with_reducible apply RS.nil); exact mixed; kernel_rfl) | ((with_reducible apply W.seq)) | ((with_reducible apply W.reg); kernel_rfl) | ((with_reducible apply W.block)) | ((with_reducible apply W.skip)) | ((with_reducible apply W.condT); kernel_rfl; exact rfl) | ((with_reducible apply W.condF); kernel_rfl; exact rfl) | ((with_reducible apply thenK_n)) | ((with_reducible apply blockK_n)))
            refine roundK_n (i + 1, a + x.n, left - x.n, ⟨b, pub, sec, A1, n1, c1, some ⟨qb, qo, none⟩, n2, c2⟩) [0, 1] rfl rfl ⟨by show i + 1 ≤ _; omega, ?_, hP, by dsimp only; omega, by dsimp only; omega, ?_⟩ (by show _ - (i + 1) < _ - i; omega) (by (refine FitL.mk ?_ ?_ ?_ ?_ <;> (repeat' (first | exact trivial | exact rfl | (refine AllB.opt rfl rfl ?_) | apply And.intro)); done))
            · exact ⟨hbl, hpub, hsec⟩
            · exact hD
        · have hn0 : 0 < sec.length := by have := hsec.len; omega
          have hle2 := hsec.le
          have hcm := hsec.cap
          have hnl := hsec.len
          cases hA : A2 with
          | none => have := hsec.nil hA; omega
          | some q =>
            have hq := hsec.spot q hA
            obtain ⟨qb, qo, qs⟩ := q
            dsimp only at hq
            subst hq; subst hA
            obtain ⟨ds, de, hQ2, hQ2l, htk⟩ := bytes_at hsec.at_ hn0
            have hQ2n := hd _ _ hQ2
            have e3 : sec.take (min n2 (a.toNat + m - a.toNat)) = sec.take m := by
              rw [List.take_eq_take_iff]; omega
            have e4 : sec.drop (min n2 (a.toNat + m - a.toNat)) = sec.drop m := by
              by_cases h0 : m ≤ n2
              · rw [show min n2 (a.toNat + m - a.toNat) = m by omega]
              · rw [List.drop_eq_nil_of_le (by omega), List.drop_eq_nil_of_le (by omega)]
            have hcp : setL (bytesC b) a.toNat (takeV qo ((min n2 (a.toNat + m - a.toNat)) * 1) ds) = bytesC (putB b a.toNat (sec.take m)) := by
              rw [Nat.mul_one, htk _ (by omega), e3, putB_bytes]
            repeat (first | ((with_reducible apply RS.indexAddrS); exact rfl; exact rfl; exact rfl; exact rfl; exact rfl; omega) | ((with_reducible apply RS.loadNB); exact rfl; exact rfl; exact rfl; exact hQ; exact hQn; exact hQl; exact hQv) | ((with_reducible apply (RS.sliceSL (b := π2 1) (L := a.toNat) (H := a.toNat + m) (off' := a.toNat))); exact rfl; exact rfl; exact rfl; exact ⟨_, _, rfl, ha⟩; exact ⟨_, _, rfl, (show a + x.n = _ by omega)⟩; omega; omega; (show _ < 18446744073709551616; omega); (rw [if_neg (by omega)]; omega)) | ((with_reducible apply (RS.copyLB (i := 1) (cs' := bytesC (putB b a.toNat (sec.take m))))); exact rfl; exact rfl; exact rfl; exact rfl; exact rfl; exact rfl; exact hQ2; exact hQ2n; (unfold bytesC; rw [List.length_map]; dsimp only; omega); (first | omega | (dsimp only; omega)); (dsimp only; rw [Nat.mul_one, htk _ (by omega)]; exact bytes_one _); exact hcp) | ((with_reducible apply (RS.sliceSL (b := qb) (L := min n2 (a.toNat + m - a.toNat)) (H := n2) (off' := (if c2 = min n2 (a.toNat + m - a.toNat) then qo else qo + (min n2 (a.toNat + m - a.toNat)) * 1)))); exact rfl; exact rfl; exact rfl; exact ⟨_, _, rfl, rfl⟩; exact rfl; omega; omega; exact hcm; exact rfl) | ((with_reducible apply RS.move); exact rfl; exact rfl; exact rfl) | ((with_reducible apply RS.assign); exact rfl; exact rfl; exact rfl) | ((with_reducible apply RS.cmpT); exact rfl; exact rfl; exact rfl; exact rfl; (simp only [cmpP]; omega)) | ((with_reducible apply RS.cmpF); exact rfl; exact rfl; exact rfl; exact rfl; (simp only [cmpN]; omega)) | ((with_reducible apply RS.add1); exact rfl; exact rfl; exact rfl; exact rfl; omega) | ((with_reducible apply RS.binFit); exact rfl; exact rfl; exact rfl; exact rfl; exact rfl; omega) | ((with_reducible apply RS.fieldAddr); exact rfl; exact rfl; exact rfl) | ((with_reducible apply RS.load1); exact rfl; exact rfl; exact rfl; exact rfl; exact rfl; exact rfl) | ((with_reducible apply RS.store); exact rfl; exact rfl; exact rfl; exact rfl; exact rfl; exact Nat.le_of_ble_eq_true rfl; exact rfl; exact rfl; exact rfl) | ((with_reducible apply RS.alloc); exact rfl; exact rfl) | ((with_reducible apply RS.nil); exact mixed; kernel_rfl) | ((with_reducible apply W.seq)) | ((with_reducible apply W.reg); kernel_rfl) | ((with_reducible apply W.block)) | ((with_reducible apply W.skip)) | ((with_reducible apply W.condT); kernel_rfl; exact rfl) | ((with_reducible apply W.condF); kernel_rfl; exact rfl) | ((with_reducible apply thenK_n)) | ((with_reducible apply blockK_n)))
            refine roundK_n (i + 1, a + x.n, left - x.n, ⟨putB b a.toNat (sec.take m), pub, sec.drop (min n2 (a.toNat + m - a.toNat)), A1, n1, c1, some ⟨qb, if c2 = min n2 (a.toNat + m - a.toNat) then qo else qo + (min n2 (a.toNat + m - a.toNat)) * 1, none⟩, n2 - (min n2 (a.toNat + m - a.toNat)), c2 - (min n2 (a.toNat + m - a.toNat))⟩) [0, 1] rfl rfl ⟨by show i + 1 ≤ _; omega, ?_, hP, by dsimp only; omega, by dsimp only; omega, ?_⟩ (by show _ - (i + 1) < _ - i; omega) (by (refine FitL.mk ?_ ?_ ?_ ?_ <;> (repeat' (first | exact trivial | exact rfl | (refine AllB.opt rfl rfl ?_) | apply And.intro)); done))
            · exact ⟨(putB_len _ _ _).trans hbl, hpub, InRow.drop hsec (by omega)⟩
            · simp only [DX.d, e4]; exact hD
      · exact absurd hk3 hk4
    · have hni2 : i = g.parts.length := by omega
      subst hni2
      rw [List.drop_length, partsD] at hD
      repeat (first | ((with_reducible apply RS.move); exact rfl; exact rfl; exact rfl) | ((with_reducible apply RS.cmpF); exact rfl; exact rfl; exact rfl; exact rfl; (simp only [cmpN]; omega)) | ((with_reducible apply RS.add1); exact rfl; exact rfl; exact rfl; exact rfl; omega) | ((with_reducible apply RS.nil); exact mixed; kernel_rfl) | ((with_reducible apply W.seq)) | ((with_reducible apply W.reg); kernel_rfl) | ((with_reducible apply W.exit)) | ((with_reducible apply W.condF); kernel_rfl; exact rfl) | ((with_reducible apply thenK_n)) | ((with_reducible apply thenK_e)) | ((with_reducible apply blockK_n)) | ((with_reducible apply blockK_hit); exact rfl) | ((with_reducible apply roundK_e)))
      exact roundK_n (gi + 1, ⟨b, pub, sec, A1, n1, c1, A2, n2, c2⟩) [0, 1] rfl rfl ⟨by show gi + 1 ≤ _; omega, ⟨hbl, hpub, hsec⟩, hD⟩ (by show _ - (gi + 1) < _ - gi; omega) (by (refine FitL.mk ?_ ?_ ?_ ?_ <;> (repeat' (first | exact trivial | exact rfl | (refine AllB.opt rfl rfl ?_) | apply And.intro)); done))
  · have hni : gi = p.globals.length := by omega
    subst hni
    rw [List.drop_length, globsD] at hD
    have hb : dx.b = dataS p pub sec := by unfold dataS; rw [hn, Int.toNat_natCast, ← hD]; rfl
    repeat (first | ((with_reducible apply RS.move); exact rfl; exact rfl; exact rfl) | ((with_reducible apply RS.assign); exact rfl; exact rfl; exact rfl) | ((with_reducible apply RS.cmpF); exact rfl; exact rfl; exact rfl; exact rfl; (simp only [cmpN]; omega)) | ((with_reducible apply RS.nil); exact mixed; kernel_rfl) | ((with_reducible apply W.seq)) | ((with_reducible apply W.reg); kernel_rfl) | ((with_reducible apply W.exit)) | ((with_reducible apply W.ret)) | ((with_reducible apply W.condF); kernel_rfl; exact rfl) | ((with_reducible apply thenK_n)) | ((with_reducible apply thenK_e)) | ((with_reducible apply blockK_hit); exact rfl) | ((with_reducible apply roundK_e)))
    exact endsK_ret _ (.cons (.tmp rfl) .nil) ⟨rfl, 1, Nat.lt_succ_self _, by rw [← hb]; rfl, rfl⟩
end Go.Proofs.Ytjhloakacicdiaa
namespace Go.Proofs.Ytjhloakacicdiaa
open Go.AH
attribute [local irreducible] W RS
theorem partD_len (a : Int) (d : DatS) (x : PartS) : (partD a d x).b.length = d.b.length := by
  unfold partD
  split
  · exact putB_len _ _ _
  · split
    · exact storeV_len _ _ _ _
    · split <;> exact putB_len _ _ _
theorem partsD_len : ∀ (l : List PartS) (a : Int) (d : DatS), (partsD l a d).b.length = d.b.length := by
  intro l
  induction l with
  | nil => intro a d; rfl
  | cons x l ih => intro a d; rw [partsD, ih, partD_len]
theorem globsD_len : ∀ (l : List GlobS) (d : DatS), (globsD l d).b.length = d.b.length := by
  intro l
  induction l with
  | nil => intro d; rfl
  | cons x l ih => intro d; rw [globsD, ih, partsD_len]
theorem dataS_len (p : ProgS) (pub sec : List Int) : (dataS p pub sec).length = p.data.toNat := by
  unfold dataS; rw [globsD_len]; exact List.length_replicate
theorem InRow.up {h H : Hp} (hu : ∀ i b, h.m i = some b → H.m i = some b) {A : Option Addr} {n c : Nat} {l : List Int} (r : InRow h A n c l) : InRow H A n c l :=
  ⟨r.at_.mono hu fun _ _ h => h, r.len, r.le, r.cap, r.nil, r.spot⟩
theorem bytes_free (l : List Int) : ∀ u ∈ bytesC l, bnd 0 u := by
  intro u hu
  unfold bytesC at hu
  obtain ⟨_, _, rfl⟩ := List.mem_map.1 hu
  simp
def startS (fuel : Int) (dat stk : List Int) : RunS := { fin := 0, exit := 0, out := [], leaks := [], steps := 0, fuel := fuel, data := dat, stack := stk, sp := 134217728, deep := 0 }
def endS (r : Int × RunS) : RunS := if r.2.fin = 0 then { r.2 with exit := r.1 } else r.2
def runS (p : ProgS) (N : Nat) (pub sec : List Int) (fuel : Int) : RunS := endS (callK p N 101 (startS fuel (dataS p pub sec) (List.replicate 416000 0)) p.main [])
def brokenS : RunS := { fin := 50, exit := 0, out := [], leaks := [], steps := 0, fuel := 0, data := [], stack := [], sp := 0, deep := 0 }
def resV (s : RunS) (o l : Nat) : Value := .agg ⟨[.int .i64 s.fin, .int .i64 s.exit, rowVl 1 o s.out, rowVl 3 l s.leaks, .int .i64 s.steps]⟩
def resL (s : RunS) (_ : Nat → Nat) : List (Nat × Option Blk) := [(0, rowBk intW 2 s.out), (1, rowBk leakW 90 s.leaks)]
theorem res_par {n : Nat} (s : RunS) : ParL n 2 (resL s) 2 := by
  refine ⟨ParB_row (fun a v hv => ?_) s.leaks, ParB_row (fun a v hv => ?_) s.out, trivial⟩
  · simp only [leakW, List.mem_cons, List.not_mem_nil, or_false] at hv
    rcases hv with rfl | rfl | rfl <;> simp
  · simp only [intW, List.mem_cons, List.not_mem_nil, or_false] at hv
    subst hv; simp
theorem res_parv {n : Nat} (s : RunS) : ParV n 2 (fun π => resV s (π 0) (π 1)) := by
  refine ⟨fun τ π hτ => ?_, fun π N hN hp => ?_⟩
  · unfold resV
    rw [show ∀ l : List Value, sub τ (.agg ⟨l⟩) = .agg ⟨l.map (sub τ)⟩ from fun l => by simp]
    simp [sub_row]
  · have h0 := hp 0 (by omega)
    have h1 := hp 1 (by omega)
    unfold resV
    rw [bnd_agg]
    intro v hv
    have hv : v ∈ [Value.int .i64 s.fin, .int .i64 s.exit, rowVl 1 (π 0) s.out, rowVl 3 (π 1) s.leaks, .int .i64 s.steps] := by simpa using hv
    simp only [List.mem_cons, List.not_mem_nil, or_false] at hv
    rcases hv with rfl | rfl | rfl | rfl | rfl
    all_goals first | exact bnd_row (by assumption) | simp
theorem rowVl_one {α : Type} (sz a : Nat) (l : List α) : (rowVl sz a l).oneCell' = true := by cases l <;> rfl
theorem res_one {a b c : Int} {o l : Nat} {x : List Int} {y : List LeakS} : ([.int .i64 a, .int .i64 b, rowVl 1 o x, rowVl 3 l y, .int .i64 c] : List Value).all (·.oneCell') = true := by
  cases x <;> cases y <;> rfl
set_option maxHeartbeats 4000000 in
set_option maxRecDepth 100000 in
theorem Run_to (B : Hp) (hd : ∀ i b, B.m i = some b → i < B.n) (p : ProgS) (hR : RunP p) (hgl : p.globals.length ≤ 1000000) (hpl : ∀ g ∈ p.globals, g.parts.length ≤ 1000000) (pb : Nat) (pe : TypeId) (P1 : Option Addr) (d1 : Nat) (P2 : Option Addr) (d2 : Nat) (hp : ProgAt B pb p pe P1 d1 P2 d2)
    (A1 : Option Addr) (n1 c1 : Nat) (A2 : Option Addr) (n2 c2 : Nat) (pub sec : List Int) (hi1 : InRow B A1 n1 c1 pub) (hi2 : InRow B A2 n2 c2 sec) (fuel : Int) (hf : 0 ≤ fuel ∧ fuel ≤ 1000000) (N : Nat) (hN : fuel < N) :
    TO Try.prog 16 B 0 2 (fun _ => [.pointer (some ⟨pb, 0, none⟩), .agg ⟨[.slice A1 n1 c1, .slice A2 n2 c2]⟩, .int .i64 fuel]) (fun _ => []) (fun π => resV (runS p N pub sec fuel) (π 0) (π 1)) (resL (runS p N pub sec fuel)) := by
  have hpb := hd _ _ hp.m
  have hrp := hR.right
  unfold rightP at hrp
  simp only [Bool.and_eq_true, decide_eq_true_eq] at hrp
  obtain ⟨⟨⟨⟨r1, r2⟩, r3⟩, r4⟩, r5⟩ := hrp
  obtain ⟨n, hn⟩ : ∃ n : Nat, p.data = n := ⟨p.data.toNat, by omega⟩
  unfold runS
  generalize hstk : List.replicate 416000 (0 : Int) = stk
  have hlen : stk.length = 416000 := by rw [← hstk]; exact List.length_replicate
  have hrep : repL [.int .u8 0] stk.length = bytesC stk := by rw [hlen, bytes_rep, hstk]
  clear hstk
  have hdl : (dataS p pub sec).length = n := by rw [dataS_len, hn]; rfl
  have hdata : ∀ {k : Nat} (H : Hp), H.n = k → (∀ i b, B.m i = some b → H.m i = some b) → TF Try.prog 34 ⟨[.pointer (some ⟨pb, 0, none⟩), .agg ⟨[.slice A1 n1 c1, .slice A2 n2 c2]⟩]⟩ H (.slice (some ⟨k, 0, none⟩) (dataS p pub sec).length (dataS p pub sec).length) (H.push ⟨⟨bytesC (dataS p pub sec)⟩, 5⟩) := by
    intro k H hk hu
    subst hk
    rw [hdl]
    exact Data_tf p r4 hR.nf hgl hpl n hn (by omega) pb pe P1 d1 P2 d2 H (hp.up hu) A1 n1 c1 A2 n2 c2 pub sec (hi1.up hu) (hi2.up hu)
  have hcall : CallTE B pb (callK p N 101) (startS fuel (dataS p pub sec) stk) p.main [] :=
    (call_all B hd p hR pb pe P1 d1 P2 d2 hp N 101 (startS fuel (dataS p pub sec) stk) p.main [] ⟨⟨by show (dataS p pub sec).length ≤ _; omega, by show stk.length ≤ _; omega, ⟨Int.le_refl _, hf.1⟩, hf.2, by show ((0 : Nat) : Int) ≤ 0; omega, by show ((0 : Nat) : Int) ≤ 0; omega, ⟨by show (0 : Int) ≤ 0; omega, by show (0 : Int) ≤ 101; omega⟩⟩, rfl, hlen, by show (134217728 - 4032 * 0 : Int) ≤ 134217728; omega, Int.le_refl _, by show (101 : Int) ≤ 0 + 101; omega, by show (0 : Int) ≤ 100; omega, by show fuel - 0 < N; omega⟩ (by rw [r1]; rfl) (fun a ha => by cases ha)).1
  unfold CallTE at hcall
  generalize dataS p pub sec = dat at *
  generalize callK p N 101 (startS fuel dat stk) p.main [] = r at *
  refine TO.intro (fn := Try.f16) (c := (Try.f16.body.getD .skip)) Try.func16 (by kernel_rfl) Try.ntmps16 (fun π => by kernel_rfl) (res_par _) (res_parv _) fun π => ?_
  refine W.ghost (W.ghost (W.ghost ?_))
  conv => arg 2; whnf
  by_cases hfin : r.2.fin = 0
  · have hft : (r.2.fin == 0) = true := by simpa using hfin
    rw [show endS r = { r.2 with exit := r.1 } from if_pos hfin]
    repeat (first | ((with_reducible apply RS.store); exact rfl; exact rfl; exact rfl; exact rfl; exact rfl; exact Nat.le_of_ble_eq_true rfl; exact rfl; exact res_one; exact rfl) | ((with_reducible apply W.condT); kernel_rfl; (refine congrArg (fun z => some (Value.bool z)) (?_ : _ = true); assumption)) | ((with_reducible apply RS.callR true []); exact rfl; exact rfl; exact rfl; exact fun H hH => (show TF _ _ _ H (.int .i64 0) H by have h0 := Right_tf p hR.ok (fun f hf b hb x hx => Nat.le_trans (hR.nargs f hf b hb x hx) (by decide)) pb pe P1 d1 P2 d2 H (hp.up (sees_up hH hd)); rw [if_pos hR.right] at h0; exact h0); exact Nm_free (by simp)) | ((with_reducible apply (RS.callNL (b := ⟨⟨bytesC dat⟩, 5⟩) true [])); exact rfl; exact rfl; exact rfl; exact fun H hH => hdata H hH.n (sees_up hH hd)) | ((with_reducible apply (RS.makeSliceF (n := stk.length) (kx := .i64) (ky := .i64) (cs := bytesC stk))); exact rfl; exact rfl; exact (show some (Value.int IntKind.i64 416000) = some (Value.int IntKind.i64 (stk.length : Int)) from by rw [hlen]; rfl); exact (show some (Value.int IntKind.i64 416000) = some (Value.int IntKind.i64 (stk.length : Int)) from by rw [hlen]; rfl); exact rfl; exact rfl; (rw [hlen]; decide); exact hrep; exact bytes_free stk) | ((with_reducible apply RS.load1B); exact rfl; exact rfl; exact rfl; exact hp.m; exact hpb; exact rfl) | ((with_reducible apply (RS.callE [7, 0, 1, 5, 6, 2] [0, 3, 4])); exact rfl; exact rfl; exact hcall; exact rfl; exact rfl; exact ⟨rfl, rfl, rfl, rfl, rfl, rfl, trivial⟩; intro π2 hπ2; rw [← hπ2 7 (by decide) (keepE rfl), ← hπ2 4 (by decide) (keepE rfl)]) | ((with_reducible apply RS.callR false [7]); exact rfl; exact rfl; exact rfl; exact fun H hH => ok_tf _ _ _ H (hH.l 7 rfl (by simp)) rfl; exact Nm_free (by simp)) | ((with_reducible apply RS.nilCheck); exact rfl; exact rfl; exact rfl) | ((with_reducible apply RS.move); exact rfl; exact rfl; exact rfl) | ((with_reducible apply RS.assign); exact rfl; exact rfl; exact rfl) | ((with_reducible apply RS.cmpC); exact rfl; exact rfl; exact rfl; exact rfl; exact rfl) | ((with_reducible apply RS.fieldAddr); exact rfl; exact rfl; exact rfl) | ((with_reducible apply RS.loadN); exact rfl; exact rfl; exact rfl; exact rfl; exact rfl; exact Nat.le_of_ble_eq_true rfl) | ((with_reducible apply RS.store); exact rfl; exact rfl; exact rfl; exact rfl; exact rfl; exact Nat.le_of_ble_eq_true rfl; exact rfl; exact rfl; exact rfl) | ((with_reducible apply RS.alloc); exact rfl; exact rfl) | ((with_reducible apply RS.box); exact rfl; exact rfl; exact rfl) | ((with_reducible apply RS.build); exact rfl; exact rfl; exact rfl; exact rfl) | ((with_reducible apply RS.nil); exact mixed; kernel_rfl) | ((with_reducible apply W.seq)) | ((with_reducible apply W.reg); kernel_rfl) | ((with_reducible apply W.ret)) | ((with_reducible apply W.skip)) | ((with_reducible apply W.condF); kernel_rfl; exact rfl) | ((with_reducible apply thenK_n)))
    exact endsK_ret _ (.cons (.cellN rfl rfl rfl (Nat.le_of_ble_eq_true rfl)) .nil) (by (refine AtO.mk [0, 1] rfl rfl rfl ?_ ?_ rfl <;> (repeat' (first | exact trivial | exact rfl | apply And.intro)); done))
  · have hft : (r.2.fin == 0) = false := by simpa using hfin
    rw [show endS r = r.2 from if_neg hfin]
    repeat (first | ((with_reducible apply RS.store); exact rfl; exact rfl; exact rfl; exact rfl; exact rfl; exact Nat.le_of_ble_eq_true rfl; exact rfl; exact res_one; exact rfl) | ((with_reducible apply W.condF); kernel_rfl; (refine congrArg (fun z => some (Value.bool z)) (?_ : _ = false); assumption)) | ((with_reducible apply RS.callR true []); exact rfl; exact rfl; exact rfl; exact fun H hH => (show TF _ _ _ H (.int .i64 0) H by have h0 := Right_tf p hR.ok (fun f hf b hb x hx => Nat.le_trans (hR.nargs f hf b hb x hx) (by decide)) pb pe P1 d1 P2 d2 H (hp.up (sees_up hH hd)); rw [if_pos hR.right] at h0; exact h0); exact Nm_free (by simp)) | ((with_reducible apply (RS.callNL (b := ⟨⟨bytesC dat⟩, 5⟩) true [])); exact rfl; exact rfl; exact rfl; exact fun H hH => hdata H hH.n (sees_up hH hd)) | ((with_reducible apply (RS.makeSliceF (n := stk.length) (kx := .i64) (ky := .i64) (cs := bytesC stk))); exact rfl; exact rfl; exact (show some (Value.int IntKind.i64 416000) = some (Value.int IntKind.i64 (stk.length : Int)) from by rw [hlen]; rfl); exact (show some (Value.int IntKind.i64 416000) = some (Value.int IntKind.i64 (stk.length : Int)) from by rw [hlen]; rfl); exact rfl; exact rfl; (rw [hlen]; decide); exact hrep; exact bytes_free stk) | ((with_reducible apply RS.load1B); exact rfl; exact rfl; exact rfl; exact hp.m; exact hpb; exact rfl) | ((with_reducible apply (RS.callE [7, 0, 1, 5, 6, 2] [0, 3, 4])); exact rfl; exact rfl; exact hcall; exact rfl; exact rfl; exact ⟨rfl, rfl, rfl, rfl, rfl, rfl, trivial⟩; intro π2 hπ2; rw [← hπ2 7 (by decide) (keepE rfl), ← hπ2 4 (by decide) (keepE rfl)]) | ((with_reducible apply RS.callR false [7]); exact rfl; exact rfl; exact rfl; exact fun H hH => ok_tf _ _ _ H (hH.l 7 rfl (by simp)) rfl; exact Nm_free (by simp)) | ((with_reducible apply RS.nilCheck); exact rfl; exact rfl; exact rfl) | ((with_reducible apply RS.move); exact rfl; exact rfl; exact rfl) | ((with_reducible apply RS.assign); exact rfl; exact rfl; exact rfl) | ((with_reducible apply RS.cmpC); exact rfl; exact rfl; exact rfl; exact rfl; exact rfl) | ((with_reducible apply RS.fieldAddr); exact rfl; exact rfl; exact rfl) | ((with_reducible apply RS.loadN); exact rfl; exact rfl; exact rfl; exact rfl; exact rfl; exact Nat.le_of_ble_eq_true rfl) | ((with_reducible apply RS.alloc); exact rfl; exact rfl) | ((with_reducible apply RS.box); exact rfl; exact rfl; exact rfl) | ((with_reducible apply RS.build); exact rfl; exact rfl; exact rfl; exact rfl) | ((with_reducible apply RS.nil); exact mixed; kernel_rfl) | ((with_reducible apply W.seq)) | ((with_reducible apply W.reg); kernel_rfl) | ((with_reducible apply W.ret)) | ((with_reducible apply W.skip)) | ((with_reducible apply W.condF); kernel_rfl; exact rfl) | ((with_reducible apply thenK_n)))
    exact endsK_ret _ (.cons (.cellN rfl rfl rfl (Nat.le_of_ble_eq_true rfl)) .nil) (by (refine AtO.mk [0, 1] rfl rfl rfl ?_ ?_ rfl <;> (repeat' (first | exact trivial | exact rfl | apply And.intro)); done))
set_option maxHeartbeats 4000000 in
set_option maxRecDepth 100000 in
theorem RunBroken_to (B : Hp) (hd : ∀ i b, B.m i = some b → i < B.n) (p : ProgS) (hok : p.ok) (hargs : ∀ f ∈ p.funcs, ∀ b ∈ f.blocks, ∀ x ∈ b.ins, x.args.length ≤ 1000000000) (hno : rightP p = false) (pb : Nat) (pe : TypeId) (P1 : Option Addr) (d1 : Nat) (P2 : Option Addr) (d2 : Nat) (hp : ProgAt B pb p pe P1 d1 P2 d2)
    (A1 : Option Addr) (n1 c1 : Nat) (A2 : Option Addr) (n2 c2 : Nat) (fuel : Int) :
    TO Try.prog 16 B 0 2 (fun _ => [.pointer (some ⟨pb, 0, none⟩), .agg ⟨[.slice A1 n1 c1, .slice A2 n2 c2]⟩, .int .i64 fuel]) (fun _ => []) (fun π => resV brokenS (π 0) (π 1)) (resL brokenS) := by
  have hpb := hd _ _ hp.m
  refine TO.intro (fn := Try.f16) (c := (Try.f16.body.getD .skip)) Try.func16 (by kernel_rfl) Try.ntmps16 (fun π => by kernel_rfl) (res_par _) (res_parv _) fun π => ?_
  refine W.ghost (W.ghost (W.ghost ?_))
  conv => arg 2; whnf
  repeat (first | ((with_reducible apply RS.callR true []); exact rfl; exact rfl; exact rfl; exact fun H hH => (show TF _ _ _ H (.int .i64 50) H by have h0 := Right_tf p hok hargs pb pe P1 d1 P2 d2 H (hp.up (sees_up hH hd)); rw [if_neg (by rw [hno]; decide)] at h0; exact h0); exact Nm_free (by simp)) | ((with_reducible apply RS.move); exact rfl; exact rfl; exact rfl) | ((with_reducible apply RS.cmpT); exact rfl; exact rfl; exact rfl; exact rfl; (simp only [cmpP]; omega)) | ((with_reducible apply RS.store); exact rfl; exact rfl; exact rfl; exact rfl; exact rfl; exact Nat.le_of_ble_eq_true rfl; exact rfl; exact rfl; exact rfl) | ((with_reducible apply RS.alloc); exact rfl; exact rfl) | ((with_reducible apply RS.box); exact rfl; exact rfl; exact rfl) | ((with_reducible apply RS.build); exact rfl; exact rfl; exact rfl; exact rfl) | ((with_reducible apply RS.nil); exact mixed; kernel_rfl) | ((with_reducible apply W.seq)) | ((with_reducible apply W.reg); kernel_rfl) | ((with_reducible apply W.ret)) | ((with_reducible apply W.condT); kernel_rfl; exact rfl) | ((with_reducible apply thenK_n)) | ((with_reducible apply thenK_r)))
  exact endsK_ret _ (.cons (.cellN rfl rfl rfl (Nat.le_of_ble_eq_true rfl)) .nil) (by (refine AtO.mk [0, 1] rfl rfl rfl ?_ ?_ rfl <;> (repeat' (first | exact trivial | exact rfl | apply And.intro)); done))
end Go.Proofs.Ytjhloakacicdiaa
namespace Go.Proofs.Ytjhloakacicdiaa
open Go.AH
attribute [local irreducible] W RS
theorem lightI_mem : ∀ {l : List InsS} {n m : Nat}, lightI l n = some m → ∀ x ∈ l, x.args.length ≤ 4000 := by
  intro l
  induction l with
  | nil => intro n m _ x hx; cases hx
  | cons a l ih =>
    intro n m h x hx
    rw [lightI] at h
    split at h
    · rename_i hc
      rcases List.mem_cons.1 hx with rfl | hx
      · omega
      · exact ih h x hx
    · cases h
theorem lightB_mem : ∀ {l : List BlockS} {n m : Nat}, lightB l n = some m → ∀ b ∈ l, b.ins.length ≤ 2000 ∧ ∀ x ∈ b.ins, x.args.length ≤ 4000 := by
  intro l
  induction l with
  | nil => intro n m _ x hx; cases hx
  | cons a l ih =>
    intro n m h x hx
    rw [lightB] at h
    split at h
    · rename_i hc
      obtain ⟨k, h1, h2⟩ := Option.bind_eq_some_iff.1 h
      rcases List.mem_cons.1 hx with rfl | hx
      · exact ⟨by omega, lightI_mem h1⟩
      · exact ih h2 x hx
    · cases h
theorem lightS_of {f : FuncS} (h : lightS f = true) : f.slots.length ≤ 4 ∧ ∀ z ∈ f.slots, 0 ≤ z ∧ z ≤ 1000 := by
  unfold lightS at h
  have h := List.all_eq_true.1 h
  refine ⟨?_, fun z hz => ?_⟩
  · cases hs : f.slots with
    | nil => simp
    | cons a l =>
      have := h a (by rw [hs]; simp)
      simp only [Bool.and_eq_true, decide_eq_true_eq] at this
      rw [← hs]; exact this.2
  · have := h z hz
    simp only [Bool.and_eq_true, decide_eq_true_eq] at this
    exact this.1
theorem lightF_mem : ∀ {l : List FuncS} {n m : Nat}, lightF l n = some m → ∀ f ∈ l, f.regs ≤ 300 ∧ (f.slots.length ≤ 4 ∧ ∀ z ∈ f.slots, 0 ≤ z ∧ z ≤ 1000) ∧ ∀ b ∈ f.blocks, b.ins.length ≤ 2000 ∧ ∀ x ∈ b.ins, x.args.length ≤ 4000 := by
  intro l
  induction l with
  | nil => intro n m _ x hx; cases hx
  | cons a l ih =>
    intro n m h x hx
    rw [lightF] at h
    split at h
    · rename_i hc
      obtain ⟨k, h1, h2⟩ := Option.bind_eq_some_iff.1 h
      rcases List.mem_cons.1 hx with rfl | hx
      · exact ⟨by omega, lightS_of hc.2.2.2, lightB_mem h1⟩
      · exact ih h2 x hx
    · cases h
structure LightP (p : ProgS) : Prop where
  nf : p.funcs.length ≤ 20
  ng : p.globals.length ≤ 20
  np : ∀ g ∈ p.globals, g.parts.length ≤ 50
  f : ∀ f ∈ p.funcs, f.regs ≤ 300 ∧ (f.slots.length ≤ 4 ∧ ∀ z ∈ f.slots, 0 ≤ z ∧ z ≤ 1000) ∧ ∀ b ∈ f.blocks, b.ins.length ≤ 2000 ∧ ∀ x ∈ b.ins, x.args.length ≤ 4000
theorem lightP_all {p : ProgS} (h : lightP p = true) : LightP p := by
  unfold lightP at h
  simp only [Bool.and_eq_true, decide_eq_true_eq] at h
  obtain ⟨⟨⟨⟨⟨h1, h2⟩, h3⟩, h4⟩, h5⟩, h6⟩ := h
  obtain ⟨m, hm⟩ := Option.isSome_iff_exists.1 h6
  refine ⟨h1, h2, fun g hg => ?_, lightF_mem hm⟩
  have := List.all_eq_true.1 h5 g hg
  unfold lightG at this
  simp only [Bool.and_eq_true, decide_eq_true_eq] at this
  exact this.1.2
theorem LightP.run {p : ProgS} (h : LightP p) (hok : p.ok) (hr : rightP p = true) : RunP p :=
  ⟨hok, hr, by have := h.nf; omega, fun f hf => by have := (h.f f hf).1; omega, fun f hf => (h.f f hf).2.1.1, fun f hf => (h.f f hf).2.1.2, fun f hf b hb => by have := ((h.f f hf).2.2 b hb).1; omega, fun f hf b hb x hx => by have := ((h.f f hf).2.2 b hb).2 x hx; omega⟩
def runR (p : ProgS) (N : Nat) (pub sec : List Int) (fuel : Int) : RunS := if rightP p = true then runS p N pub sec fuel else brokenS
theorem RunAny_to (B : Hp) (hd : ∀ i b, B.m i = some b → i < B.n) (p : ProgS) (hok : p.ok) (hL : LightP p) (pb : Nat) (pe : TypeId) (P1 : Option Addr) (d1 : Nat) (P2 : Option Addr) (d2 : Nat) (hp : ProgAt B pb p pe P1 d1 P2 d2)
    (A1 : Option Addr) (n1 c1 : Nat) (A2 : Option Addr) (n2 c2 : Nat) (pub sec : List Int) (hi1 : InRow B A1 n1 c1 pub) (hi2 : InRow B A2 n2 c2 sec) (fuel : Int) (hf : 0 ≤ fuel ∧ fuel ≤ 1000000) (N : Nat) (hN : fuel < N) :
    TO Try.prog 16 B 0 2 (fun _ => [.pointer (some ⟨pb, 0, none⟩), .agg ⟨[.slice A1 n1 c1, .slice A2 n2 c2]⟩, .int .i64 fuel]) (fun _ => []) (fun π => resV (runR p N pub sec fuel) (π 0) (π 1)) (resL (runR p N pub sec fuel)) := by
  unfold runR
  by_cases hr : rightP p = true
  · rw [if_pos hr]
    exact Run_to B hd p (hL.run hok hr) (by have := hL.ng; omega) (fun g hg => by have := hL.np g hg; omega) pb pe P1 d1 P2 d2 hp A1 n1 c1 A2 n2 c2 pub sec hi1 hi2 fuel hf N hN
  · rw [if_neg hr]
    exact RunBroken_to B hd p hok (fun f hf b hb x hx => by have := ((hL.f f hf).2.2 b hb).2 x hx; omega) (by simpa using hr) pb pe P1 d1 P2 d2 hp A1 n1 c1 A2 n2 c2 fuel
end Go.Proofs.Ytjhloakacicdiaa
namespace Go.Proofs.Ytjhloakacicdiaa
open Go.AH
attribute [local irreducible] W RS
theorem N_tf (n : Int) (h : Hp) : TF Try.prog 19 ⟨[.int .i64 n]⟩ h (.agg ⟨[.int .i64 (-1), .int .i64 n]⟩) h := by
  refine TF.still (fn := Try.f19) (c := (Try.f19.body.getD .skip)) Try.func19 (by kernel_rfl) Try.ntmps19 (by kernel_rfl) (by simp) ?_
  conv => arg 2; whnf
  repeat (first | ((with_reducible apply RS.move); exact rfl; exact rfl; exact rfl) | ((with_reducible apply RS.store); exact rfl; exact rfl; exact rfl; exact rfl; exact rfl; exact Nat.le_of_ble_eq_true rfl; exact rfl; exact rfl; exact rfl) | ((with_reducible apply RS.alloc); exact rfl; exact rfl) | ((with_reducible apply RS.build); exact rfl; exact rfl; exact rfl; exact rfl) | ((with_reducible apply RS.nil); exact mixed; kernel_rfl) | ((with_reducible apply W.seq)) | ((with_reducible apply W.reg); kernel_rfl) | ((with_reducible apply W.ret)) | ((with_reducible apply thenK_n)))
  exact endsK_ret _ (.cons (.cellN rfl rfl rfl (Nat.le_of_ble_eq_true rfl)) .nil) ⟨rfl, rfl⟩
def fitP : ProgS := ⟨[⟨⟨#[109, 97, 105, 110]⟩, 0, 0, 0, [], [⟨[⟨30, -1, ⟨-1, 3⟩, ⟨0, 0⟩, 0, false, false, 0, 0, []⟩], ⟨3, 0, ⟨-1, 7⟩, ⟨0, 0⟩, 0, 0⟩⟩]⟩], [], 0, 0⟩
theorem SlAt.one {α : Type} {h : Hp} {b w : Nat} {cs : List Value} {e : TypeId} {x : α} {R : List Value → α → Prop} (hm : h.m b = some ⟨⟨cs⟩, e⟩) (hl : w ≤ cs.length) (hR : R (takeV 0 w cs) x) : SlAt h (some ⟨b, 0, none⟩) w [x] R := by
  refine ⟨fun i y hy => ?_⟩
  cases i with
  | zero => simp at hy; subst hy; exact ⟨b, 0, cs, e, rfl, hm, by omega, by simpa using hR⟩
  | succ i => simp at hy
theorem InRow.none {h : Hp} : InRow h none 0 0 [] := ⟨SlAt.nil, rfl, Nat.le_refl _, by decide, fun _ => rfl, fun a ha => by cases ha⟩
theorem fitP_run (stk : List Int) : (endS (callK fitP 10 101 (startS 9 (dataS fitP [] []) stk) 0 [])).fin = 0 ∧ (endS (callK fitP 10 101 (startS 9 (dataS fitP [] []) stk) 0 [])).exit = 7 ∧ (endS (callK fitP 10 101 (startS 9 (dataS fitP [] []) stk) 0 [])).steps = 2 ∧ (endS (callK fitP 10 101 (startS 9 (dataS fitP [] []) stk) 0 [])).out = [3] := by
  refine ⟨?_, ?_, ?_, ?_⟩ <;> kernel_rfl
theorem fitP_ok : RunP fitP := by
  have hok : fitP.ok := by
    refine ⟨by decide, fun f hf => ?_, by decide, fun g hg => (by cases hg), ⟨by decide, by decide⟩, ⟨by decide, by decide⟩⟩
    simp only [fitP, List.mem_singleton] at hf
    subst hf
    refine ⟨⟨by decide, by decide⟩, ⟨by decide, by decide⟩, by decide, by decide, fun a ha => (by cases ha), by decide, fun b hb => ?_⟩
    simp only [List.mem_singleton] at hb
    subst hb
    refine ⟨by decide, fun x hx => ?_, ⟨⟨by decide, by decide⟩, ⟨by decide, by decide⟩, ⟨⟨by decide, by decide⟩, ⟨by decide, by decide⟩⟩, ⟨⟨by decide, by decide⟩, ⟨by decide, by decide⟩⟩, ⟨by decide, by decide⟩, ⟨by decide, by decide⟩⟩⟩
    simp only [List.mem_singleton] at hx
    subst hx
    exact ⟨⟨by decide, by decide⟩, ⟨by decide, by decide⟩, ⟨⟨by decide, by decide⟩, ⟨by decide, by decide⟩⟩, ⟨⟨by decide, by decide⟩, ⟨by decide, by decide⟩⟩, ⟨by decide, by decide⟩, ⟨by decide, by decide⟩, ⟨by decide, by decide⟩, by decide, fun a ha => (by cases ha)⟩
  exact (lightP_all (by kernel_rfl)).run hok (by kernel_rfl)
theorem Fit_tf (h : Hp) : TF Try.prog 13 ⟨[]⟩ h (.bool true) h := by
  refine TF.stillA (fn := Try.f13) (c := (Try.f13.body.getD .skip)) Try.func13 (by kernel_rfl) Try.ntmps13 (by kernel_rfl) (by simp) ?_
  conv => arg 2; whnf
  rw [show SH.of h = ⟨h, (SH.of h).π, 0, []⟩ from rfl]
  generalize (SH.of h).π = π0
  ((with_reducible apply W.seq); repeat (first | ((with_reducible apply RS.assign); exact rfl; exact rfl; exact rfl) | ((with_reducible apply RS.nil); exact mixed; kernel_rfl) | ((with_reducible apply W.reg); kernel_rfl) | ((with_reducible apply thenK_n))))
  ((with_reducible apply W.seq); repeat (first | ((with_reducible apply RS.callB); exact rfl; exact rfl; exact rfl; exact fun H hH => (N_tf _ H); exact Nm_free (by simp)) | ((with_reducible apply RS.buildSlice); exact rfl; exact rfl; exact rfl; exact rfl; exact rfl; exact rfl; exact rfl; exact rfl) | ((with_reducible apply RS.store); exact rfl; exact rfl; exact rfl; exact rfl; exact rfl; exact Nat.le_of_ble_eq_true rfl; exact rfl; exact rfl; exact rfl) | ((with_reducible apply RS.alloc); exact rfl; exact rfl) | ((with_reducible apply RS.build); exact rfl; exact rfl; exact rfl; exact rfl) | ((with_reducible apply RS.nil); exact mixed; kernel_rfl) | ((with_reducible apply W.reg); kernel_rfl) | ((with_reducible apply thenK_n))))
  refine W.absorb fun B' hd hup hloc hn => ?_
  have m0 : B'.m (π0 0) = some ⟨⟨insC ⟨30, -1, ⟨-1, 3⟩, ⟨0, 0⟩, 0, false, false, 0, 0, []⟩ none 0⟩, 64⟩ := hloc 0 (by decide)
  have m1 : B'.m (π0 1) = some ⟨⟨[.slice (some ⟨π0 0, 0, none⟩) 1 1, .int .i64 3, .int .i64 0, .int .i64 (-1), .int .i64 7, .int .i64 0, .int .i64 0, .int .i64 0, .int .i64 0]⟩, 47⟩ := hloc 1 (by decide)
  have m2 : B'.m (π0 2) = some ⟨⟨[.string ⟨#[109, 97, 105, 110]⟩, .int .i64 0, .slice none 0 0, .int .i64 0, .slice none 0 0, .slice (some ⟨π0 1, 0, none⟩) 1 1]⟩, 35⟩ := hloc 2 (by decide)
  have m3 : B'.m (π0 3) = some ⟨⟨progC fitP (some ⟨π0 2, 0, none⟩) 1 none 0⟩, 25⟩ := hloc 3 (by decide)
  have hp : ProgAt B' (π0 3) fitP 25 (some ⟨π0 2, 0, none⟩) 1 none 0 := by
    refine ⟨m3, ?_, SlAt.nil⟩
    refine SlAt.one m2 (Nat.le_refl _) ⟨none, 0, none, 0, some ⟨π0 1, 0, none⟩, 1, rfl, SlAt.nil, ?_⟩
    refine SlAt.one m1 (Nat.le_refl _) ⟨some ⟨π0 0, 0, none⟩, 1, rfl, ?_⟩
    exact SlAt.one m0 (Nat.le_refl _) ⟨none, 0, rfl, SlAt.nil⟩
  have hrun := Run_to B' hd fitP fitP_ok (by decide) (fun g hg => by cases hg) (π0 3) 25 _ _ _ _ hp none 0 0 none 0 0 [] [] InRow.none InRow.none 9 (by decide) 10 (by decide)
  have hv := fitP_run (List.replicate 416000 0)
  change (runS fitP 10 [] [] 9).fin = 0 ∧ (runS fitP 10 [] [] 9).exit = 7 ∧ (runS fitP 10 [] [] 9).steps = 2 ∧ (runS fitP 10 [] [] 9).out = [3] at hv
  generalize runS fitP 10 [] [] 9 = r at hrun hv
  clear hloc m0 m1 m2 m3 hp
  obtain ⟨fin, exit, out, leaks, steps, fuel, data, stack, sp, deep⟩ := r
  obtain ⟨rfl, rfl, rfl, rfl⟩ := hv
  rw [show SH.of B' = ⟨B', (SH.of B').π, 0, []⟩ from rfl]
  generalize (SH.of B').π = π1
  repeat (first | ((with_reducible apply (RS.callO (vs := []) [] 2)); exact rfl; exact rfl; exact hrun; exact rfl; exact rfl; exact trivial; exact trivial) | ((with_reducible apply (RS.indexAddrS (n := 0))); exact rfl; exact rfl; exact rfl; exact rfl; exact rfl; exact Nat.succ_pos _) | ((with_reducible apply RS.store); exact rfl; exact rfl; exact rfl; exact rfl; exact rfl; exact Nat.le_of_ble_eq_true rfl; exact rfl; exact res_one; exact rfl) | ((with_reducible apply RS.move); exact rfl; exact rfl; exact rfl) | ((with_reducible apply RS.assign); exact rfl; exact rfl; exact rfl) | ((with_reducible apply RS.pickT); exact rfl; exact rfl; exact rfl; exact rfl) | ((with_reducible apply RS.cmpC); exact rfl; exact rfl; exact rfl; exact rfl; exact rfl) | ((with_reducible apply RS.lenSl); exact rfl; exact rfl; exact rfl) | ((with_reducible apply RS.fieldAddr); exact rfl; exact rfl; exact rfl) | ((with_reducible apply RS.load1); exact rfl; exact rfl; exact rfl; exact rfl; exact rfl; exact rfl) | ((with_reducible apply RS.alloc); exact rfl; exact rfl) | ((with_reducible apply RS.build); exact rfl; exact rfl; exact rfl; exact rfl) | ((with_reducible apply RS.nil); exact mixed; kernel_rfl) | ((with_reducible apply W.seq)) | ((with_reducible apply W.reg); kernel_rfl) | ((with_reducible apply W.ret)) | ((with_reducible apply thenK_n)))
  exact endsK_ret _ (.cons (.tmp rfl) .nil) ⟨hup, rfl⟩
end Go.Proofs.Ytjhloakacicdiaa
namespace Go.Proofs.Ytjhloakacicdiaa
open Go.AH
attribute [local irreducible] W RS
structure FuelOK (a b : RunS) (f : Int) : Prop where
  out : ∃ x, b.out = x ++ a.out
  leaks : ∃ x, b.leaks = x ++ a.leaks
  steps : a.steps ≤ f
  same : a.fin ≠ 42 → a.fin = b.fin ∧ a.exit = b.exit ∧ a.steps = b.steps
  nout : a.out.length ≤ 100000000 ∧ b.out.length ≤ 100000000
  nleaks : a.leaks.length ≤ 100000000 ∧ b.leaks.length ≤ 100000000
structure RunBd (a : RunS) (f : Int) : Prop where
  steps : a.steps ≤ f
  out : a.out.length ≤ 100000000
  leaks : a.leaks.length ≤ 100000000
theorem runR_bd (B : Hp) (hd : ∀ i b, B.m i = some b → i < B.n) (p : ProgS) (hok : p.ok) (hL : LightP p) (pb : Nat) (pe : TypeId) (P1 : Option Addr) (d1 : Nat) (P2 : Option Addr) (d2 : Nat) (hp : ProgAt B pb p pe P1 d1 P2 d2) (pub sec : List Int) (fuel : Int) (hf : 0 ≤ fuel ∧ fuel ≤ 1000000) (N : Nat) (hN : fuel < N) : RunBd (runR p N pub sec fuel) fuel := by
  unfold runR
  by_cases hr : rightP p = true
  · rw [if_pos hr]
    have hR := hL.run hok hr
    unfold rightP at hr
    simp only [Bool.and_eq_true, decide_eq_true_eq] at hr
    obtain ⟨⟨⟨⟨r1, r2⟩, r3⟩, r4⟩, r5⟩ := hr
    obtain ⟨n, hn⟩ : ∃ n : Nat, p.data = n := ⟨p.data.toNat, by omega⟩
    have hdl : (dataS p pub sec).length = n := by rw [dataS_len, hn]; rfl
    unfold runS
    generalize hstk : List.replicate 416000 (0 : Int) = stk
    have hlen : stk.length = 416000 := by rw [← hstk]; exact List.length_replicate
    clear hstk
    obtain ⟨h1, _, h3⟩ := (call_all B hd p hR pb pe P1 d1 P2 d2 hp N 101 (startS fuel (dataS p pub sec) stk) p.main [] ⟨⟨by show (dataS p pub sec).length ≤ _; omega, by show stk.length ≤ _; omega, ⟨Int.le_refl _, hf.1⟩, hf.2, by show ((0 : Nat) : Int) ≤ 0; omega, by show ((0 : Nat) : Int) ≤ 0; omega, ⟨by show (0 : Int) ≤ 0; omega, by show (0 : Int) ≤ 101; omega⟩⟩, rfl, hlen, by show (134217728 - 4032 * 0 : Int) ≤ 134217728; omega, Int.le_refl _, by show (101 : Int) ≤ 0 + 101; omega, by show (0 : Int) ≤ 100; omega, by show fuel - 0 < N; omega⟩ (by rw [r1]; rfl) (fun a ha => by cases ha)).2
    generalize callK p N 101 (startS fuel (dataS p pub sec) stk) p.main [] = r at *
    have hfu : r.2.fuel = fuel := h3.fuel
    have a1 := h1.steps
    have a2 := h1.out
    have a3 := h1.leaks
    unfold endS
    split
    · exact ⟨by show r.2.steps ≤ fuel; omega, by show r.2.out.length ≤ _; omega, by show r.2.leaks.length ≤ _; omega⟩
    · exact ⟨by omega, by omega, by omega⟩
  · rw [if_neg hr]
    exact ⟨hf.1, by decide, by decide⟩
theorem flat_at {α : Type} {w : α → List Value} {sz b : Nat} {e : TypeId} {H : Hp} {R : List Value → α → Prop} (hww : ∀ a, (w a).length = sz) (hR : ∀ a, R (w a) a) (l1 l2 : List α) (hm : H.m b = some ⟨⟨((l1 ++ l2).map w).flatten⟩, e⟩) : SlAt H (some ⟨b, 0, none⟩) sz l1 R := by
  have hwid : ∀ c ∈ (l1 ++ l2).map w, c.length = sz := by intro c hc; obtain ⟨_, _, rfl⟩ := List.mem_map.1 hc; exact hww _
  refine ⟨fun i x hx => ⟨b, 0, _, e, rfl, hm, ?_, ?_⟩⟩
  · have hi := (List.getElem?_eq_some_iff.1 hx).1
    rw [flat_len hwid, List.length_map, List.length_append]
    have : (i + 1) * sz ≤ (l1.length + l2.length) * sz := Nat.mul_le_mul_right _ (by omega)
    rw [Nat.succ_mul] at this; omega
  · have hi := (List.getElem?_eq_some_iff.1 hx).1
    have ha : ((l1 ++ l2).map w)[i]? = some (w x) := by rw [List.getElem?_map, List.getElem?_append_left hi, hx]; rfl
    have : takeV (0 + i * sz) sz ((l1 ++ l2).map w).flatten = w x := by
      rw [takeV_eq]
      apply List.ext_getElem?
      intro j
      rw [List.getElem?_take]
      by_cases hj : j < sz
      · rw [if_pos hj, List.getElem?_drop, Nat.zero_add, flat_get hwid i j hj, ha]; rfl
      · rw [if_neg hj, List.getElem?_eq_none (by rw [hww]; omega)]
    rw [this]; exact hR x
theorem row_at {α : Type} {w : α → List Value} {sz b : Nat} {e : TypeId} {H : Hp} {R : List Value → α → Prop} (hww : ∀ a, (w a).length = sz) (hR : ∀ a, R (w a) a) (x l : List α) (hm : H.m b = rowBk w e (x ++ l)) : SlAt H (if x ++ l = [] then none else some ⟨b, 0, none⟩) sz l.reverse R := by
  by_cases h : x ++ l = []
  · have : l = [] := by simp at h; exact h.2
    subst this; exact SlAt.nil
  · rw [if_neg h]
    rw [rowBk_some h, List.reverse_append] at hm
    exact flat_at hww hR _ _ hm
theorem outs_tf (a x : List Int) (i j : Nat) (H : Hp) (h1 : H.m i = rowBk intW 2 a) (h2 : H.m j = rowBk intW 2 (x ++ a)) (ha : a.length ≤ 100000000) : TF Try.prog 17 ⟨[rowVl 1 i a, preVl 1 j a.length (x ++ a)]⟩ H (.bool true) H := by
  have s1 := row_at (R := intR) (sz := 1) (fun _ => rfl) (fun _ => rfl) [] a h1
  have s2 := row_at (R := intR) (sz := 1) (fun _ => rfl) (fun _ => rfl) x a h2
  rw [rowVl_eq, preVl_eq 1 j a.length (x ++ a) (fun h => by simp at h; simp [h.2])]
  have := Nums_tf a.reverse a.reverse (if a = [] then none else some ⟨i, 0, none⟩) (if a = [] then 0 else capOf 1) (if x ++ a = [] then none else some ⟨j, 0, none⟩) (if x ++ a = [] then 0 else capOf 1) (by simp; omega) (by simp; omega) H s1 s2
  rw [List.length_reverse, decide_eq_true rfl] at this
  exact this
theorem leaks_tf (a x : List LeakS) (i j : Nat) (H : Hp) (h1 : H.m i = rowBk leakW 90 a) (h2 : H.m j = rowBk leakW 90 (x ++ a)) (ha : a.length ≤ 100000000) : TF Try.prog 18 ⟨[rowVl 3 i a, preVl 3 j a.length (x ++ a)]⟩ H (.bool true) H := by
  have s1 := row_at (R := leakR) (sz := 3) (fun _ => rfl) (fun _ => rfl) [] a h1
  have s2 := row_at (R := leakR) (sz := 3) (fun _ => rfl) (fun _ => rfl) x a h2
  rw [rowVl_eq, preVl_eq 3 j a.length (x ++ a) (fun h => by simp at h; simp [h.2])]
  have := Leaks_tf a.reverse a.reverse (if a = [] then none else some ⟨i, 0, none⟩) (if a = [] then 0 else capOf 3) (if x ++ a = [] then none else some ⟨j, 0, none⟩) (if x ++ a = [] then 0 else capOf 3) (by simp; omega) (by simp; omega) H s1 s2
  rw [List.length_reverse, decide_eq_true rfl] at this
  exact this
theorem RS.loadNF {P : Program} {ops : Array Oper} {draw : Bool} {rs : List Rk} {l : List Oper} {fl : List (Nat × Value)} {nt : Nat} {d : Tmp} {ty : TypeId} {pos : String} {af : Array Edge} {gd : Option (Nat × Bool)} {B : Hp} {π : Nat → Nat} {k : Nat} {hl : List (Nat × Option Blk)} {K : Fr → SH → Prop} {t : TypeId} {x : Operand} {blk off size : Nat} {cs vs : List Value} {e : TypeId} [hu : TyAgg P t size] (hw : wantB ops ⟨some d, .load t x, ty, pos, af, gd⟩ ⟨fl, nt⟩ = some true) (hd : Nat.blt d nt = true) (hx : Fr.ev ⟨fl, nt⟩ x = some (.pointer (some ⟨blk, off, none⟩)))
    (hb : B.m blk = some ⟨⟨cs⟩, e⟩) (hlt : blk < B.n) (hn : off + size ≤ cs.length) (hv : takeV off size cs = vs) (hf : ∀ v ∈ vs, bnd B.n v)
    (hk : RS P ops draw (recP k true [] (some []) :: rs) l ⟨(d, .agg ⟨vs⟩) :: fl, nt⟩ ⟨B, π, k, hl⟩ K) : RS P ops draw rs (⟨some d, .load t x, ty, pos, af, gd⟩ :: l) ⟨fl, nt⟩ ⟨B, π, k, hl⟩ K := by
  subst hv
  obtain ⟨h1, h2⟩ := hu.eq
  cases ht : P.underlying t with
  | none => rw [ht] at h1; cases h1
  | some td =>
    cases hti : P.info? t with
    | none => rw [hti] at h2; cases h2
    | some ti =>
      rw [ht] at h1; rw [hti] at h2
      simp only [Option.map_some, Option.some.injEq] at h1 h2
      refine RS.step hw hd (One.reads (h := ⟨B, π, k, hl⟩) (vl := []) (nv := some []) (fun a g H hs => ?_) (ment_of_bnd (n := B.n) (fun i hi => .inl hi) _ (by simpa using hf))) hk
      have := TX.loadN (P := P) (o := ⟨some d, .load t x, ty, pos, af, gd⟩) (ev := a.eval) (h := H) rfl ht h1 hti (g.ev hx) rfl (by rw [hs.b rfl blk hlt]; exact hb) (by rw [h2]; simpa using hn)
      rw [h2] at this
      rw [takeV_eq]
      simpa using this
theorem RS.moveF {P : Program} {ops : Array Oper} {draw : Bool} {rs : List Rk} {l : List Oper} {fl : List (Nat × Value)} {nt : Nat} {d : Tmp} {ty : TypeId} {pos : String} {af : Array Edge} {gd : Option (Nat × Bool)} {h : SH} {K : Fr → SH → Prop} {x : Operand} {k : IntKind} {n : Int} (hw : wantB ops ⟨some d, .move x, ty, pos, af, gd⟩ ⟨fl, nt⟩ = some true) (hd : Nat.blt d nt = true) (hx : Fr.ev ⟨fl, nt⟩ x = some (.int k n))
    (hk : RS P ops draw (recP h.k false [] (some []) :: rs) l ⟨(d, .int k n) :: fl, nt⟩ h K) : RS P ops draw rs (⟨some d, .move x, ty, pos, af, gd⟩ :: l) ⟨fl, nt⟩ h K :=
  RS.free hw hd (fun a g H => by
    have := TX.move (P := P) (o := ⟨some d, .move x, ty, pos, af, gd⟩) (ev := a.eval) (h := H) rfl
    rw [g.ev hx] at this; exact this) (by simp) hk
theorem RS.remE {P : Program} {ops : Array Oper} {draw : Bool} {rs : List Rk} {l : List Oper} {fl : List (Nat × Value)} {nt : Nat} {h : SH} {K : Fr → SH → Prop} {d : Tmp} {ty : TypeId} {pos : String} {af : Array Edge} {gd : Option (Nat × Bool)} {t yt : TypeId} {x y : Operand} {k : IntKind} {a b n : Int} (hw : wantB ops ⟨some d, .binOp .rem t x y yt, ty, pos, af, gd⟩ ⟨fl, nt⟩ = some true) (hd : Nat.blt d nt = true)
    (hx : Fr.ev ⟨fl, nt⟩ x = some (.int k a)) (hy : Fr.ev ⟨fl, nt⟩ y = some (.int k b)) (hb : b ≠ 0) (hv : a.tmod b = n)
    (hk : RS P ops draw (recP h.k false [] (some []) :: rs) l ⟨(d, .int k n) :: fl, nt⟩ h K) : RS P ops draw rs (⟨some d, .binOp .rem t x y yt, ty, pos, af, gd⟩ :: l) ⟨fl, nt⟩ h K := by
  subst hv; exact RS.rem hw hd hx hy hb hk
set_option maxHeartbeats 4000000 in
set_option maxRecDepth 100000 in
theorem RtlrunFuel_tf (h : Hp) (p : ProgS) (hok : p.ok) (P1 : Option Addr) (d1 : Nat) (P2 : Option Addr) (d2 : Nat) (hfs : SlAt h P1 6 p.funcs (funcR h)) (hgs : SlAt h P2 4 p.globals (globR h)) (A1 : Option Addr) (n1 c1 : Nat) (A2 : Option Addr) (n2 c2 : Nat) (pub sec : List Int) (hi1 : InRow h A1 n1 c1 pub) (hi2 : InRow h A2 n2 c2 sec) (seed : Int) (N : Nat) (hb1 : bnd h.n (.slice A1 n1 c1)) (hb2 : bnd h.n (.slice A2 n2 c2))
    (law : ∀ f : Int, RunBd (runR p N pub sec f) f → RunBd (runR p N pub sec (f + 100)) (f + 100) → FuelOK (runR p N pub sec f) (runR p N pub sec (f + 100)) f) (hN : 2000 ≤ N) :
    TF Try.prog 4 ⟨[.agg ⟨progC p P1 d1 P2 d2⟩, .agg ⟨[.slice A1 n1 c1, .slice A2 n2 c2]⟩, .int .i64 seed]⟩ h (.bool true) h := by
  refine TF.stillA (fn := Try.f4) (c := (Try.f4.body.getD .skip)) Try.func4 (by kernel_rfl) Try.ntmps4 (by kernel_rfl) (by simp) ?_
  conv => arg 2; whnf
  rw [show SH.of h = ⟨h, (SH.of h).π, 0, []⟩ from rfl]
  have hπ : (SH.of h).π 2 = h.n + 2 := rfl
  generalize (SH.of h).π = π0 at *
  ((with_reducible apply W.seq); repeat (first | ((with_reducible apply RS.assign); exact rfl; exact rfl; exact rfl) | ((with_reducible apply RS.box); exact rfl; exact rfl; exact rfl) | ((with_reducible apply RS.nil); exact mixed; kernel_rfl) | ((with_reducible apply W.reg); kernel_rfl) | ((with_reducible apply thenK_n))))
  refine W.absorb fun B' hd hup hloc hn => ?_
  have m0 : B'.m (π0 0) = some ⟨⟨progC p P1 d1 P2 d2⟩, 25⟩ := hloc 0 (by decide)
  have m1 : B'.m (π0 1) = some ⟨⟨[.slice A1 n1 c1, .slice A2 n2 c2]⟩, 30⟩ := hloc 1 (by decide)
  clear hloc
  have hbv : ∀ v ∈ [Value.slice A1 n1 c1, .slice A2 n2 c2], bnd B'.n v := by
    have hle : h.n ≤ B'.n := by rw [hn, show π0 (0 + 1 + 1) = h.n + 2 from hπ]; omega
    intro v hv
    simp only [List.mem_cons, List.not_mem_nil, or_false] at hv
    rcases hv with rfl | rfl
    · exact bnd_mono hle _ hb1
    · exact bnd_mono hle _ hb2
  rw [show SH.of B' = ⟨B', (SH.of B').π, 0, []⟩ from rfl]
  generalize (SH.of B').π = π1
  have hpb := hd _ _ m0
  have hib := hd _ _ m1
  have hp : ProgAt B' (π0 0) p 25 P1 d1 P2 d2 := ⟨m0, hfs.mono hup fun _ _ hh => funcR_mono hup hh, hgs.mono hup fun _ _ hh => globR_mono hup hh⟩
  have hj1 := hi1.up hup
  have hj2 := hi2.up hup
  by_cases hl : lightP p = true
  · by_cases hsh : (decide (n1 < 3000) && decide (n2 < 3000)) = true
    · obtain ⟨r, hr, hr1⟩ : ∃ r, seed.tmod 1000 = r ∧ (-999 ≤ r ∧ r ≤ 999) := ⟨_, rfl, by have := Int.tmod_lt_of_pos seed (b := 1000) (by decide); have := Int.lt_tmod_of_pos seed (b := 1000) (by decide); omega⟩
      obtain ⟨f, hf, hf1⟩ : ∃ f, (r + 1000).tmod 1000 = f ∧ (0 ≤ f ∧ f ≤ 999) := ⟨_, rfl, by have := Int.tmod_lt_of_pos (r + 1000) (b := 1000) (by decide); have := Int.tmod_nonneg 1000 (show 0 ≤ r + 1000 by omega); omega⟩
      have hL := lightP_all hl
      have hrunA := RunAny_to B' hd p hok hL (π0 0) 25 P1 d1 P2 d2 hp A1 n1 c1 A2 n2 c2 pub sec hj1 hj2 f (by omega) N (by omega)
      have hrunB := RunAny_to B' hd p hok hL (π0 0) 25 P1 d1 P2 d2 hp A1 n1 c1 A2 n2 c2 pub sec hj1 hj2 (f + 100) (by omega) N (by omega)
      have hlaw := law f (runR_bd B' hd p hok hL (π0 0) 25 P1 d1 P2 d2 hp pub sec f (by omega) N (by omega)) (runR_bd B' hd p hok hL (π0 0) 25 P1 d1 P2 d2 hp pub sec (f + 100) (by omega) N (by omega))
      generalize runR p N pub sec f = a at *
      generalize runR p N pub sec (f + 100) = b at *
      have hst := hlaw.steps
      have hna := hlaw.nout.1
      have hnl := hlaw.nleaks.1
      have hlo : a.out.length ≤ b.out.length := by obtain ⟨x, hx⟩ := hlaw.out; rw [hx, List.length_append]; omega
      have hll : a.leaks.length ≤ b.leaks.length := by obtain ⟨x, hx⟩ := hlaw.leaks; rw [hx, List.length_append]; omega
      obtain ⟨xo, hxo⟩ := hlaw.out
      obtain ⟨xl, hxl⟩ := hlaw.leaks
      by_cases h42 : a.fin = 42
      · have hnums : ∀ (H : Hp) (i j : Nat), H.m i = rowBk intW 2 a.out → H.m j = rowBk intW 2 b.out → TF Try.prog 17 ⟨[rowVl 1 i a.out, preVl 1 j a.out.length b.out]⟩ H (.bool true) H := by
          rw [hxo]; exact fun H i j h1 h2 => outs_tf _ _ i j H h1 h2 hna
        have hleaks : ∀ (H : Hp) (i j : Nat), H.m i = rowBk leakW 90 a.leaks → H.m j = rowBk leakW 90 b.leaks → TF Try.prog 18 ⟨[rowVl 3 i a.leaks, preVl 3 j a.leaks.length b.leaks]⟩ H (.bool true) H := by
          rw [hxl]; exact fun H i j h1 h2 => leaks_tf _ _ i j H h1 h2 hnl
        clear hxo hxl
        repeat (first | ((with_reducible apply RS.callB); exact rfl; exact rfl; exact rfl; exact fun H hH => (Fit_tf H); exact Nm_free (by simp)) | ((with_reducible apply (RS.loadNB (vs := progC p P1 d1 P2 d2))); exact rfl; exact rfl; exact rfl; exact m0; exact hpb; exact Nat.le_refl _; exact rfl) | ((with_reducible apply (RS.loadNF (vs := [.slice A1 n1 c1, .slice A2 n2 c2]))); exact rfl; exact rfl; exact rfl; exact m1; exact hib; exact Nat.le_refl _; exact rfl; exact hbv) | ((with_reducible apply RS.moveF); exact rfl; exact rfl; exact rfl) | ((with_reducible apply RS.cmpF); exact rfl; exact rfl; exact rfl; exact rfl; exact rfl) | ((with_reducible apply (RS.callR (v := .bool true) true [])); exact rfl; exact rfl; exact rfl; exact fun H hH => (show TF _ _ _ H (.bool true) H by rw [← hl]; exact Light_tf p hok H P1 d1 P2 d2 (hp.up (sees_up hH hd)).fs (hp.up (sees_up hH hd)).gs); exact Nm_free (by simp)) | ((with_reducible apply (RS.callR (v := .bool true) true [])); exact rfl; exact rfl; exact rfl; exact fun H hH => (show TF _ _ _ H (.bool true) H by rw [← hsh]; exact Short_tf A1 n1 c1 A2 n2 c2 H); exact Nm_free (by simp)) | ((with_reducible apply RS.remE); exact rfl; exact rfl; exact rfl; exact rfl; decide; exact hr) | ((with_reducible apply RS.remE); exact rfl; exact rfl; exact rfl; exact rfl; decide; exact hf) | ((with_reducible apply (RS.callO (vs := []) [] 2)); exact rfl; exact rfl; exact hrunA; exact rfl; exact rfl; exact trivial; exact trivial) | ((with_reducible apply (RS.callO (vs := []) [] 2)); exact rfl; exact rfl; exact hrunB; exact rfl; exact rfl; exact trivial; exact trivial) | ((with_reducible apply RS.store); exact rfl; exact rfl; exact rfl; exact rfl; exact rfl; exact Nat.le_of_ble_eq_true rfl; exact rfl; exact res_one; exact rfl) | ((with_reducible apply RS.lenRow); exact rfl; exact rfl; exact rfl) | ((with_reducible apply (RS.sliceRow (w := intW) (e2 := 2) (l0 := b.out) (j := 2) (n := a.out.length) (sz := 1))); exact rfl; exact rfl; exact rfl; exact rfl; exact rfl; exact rfl; exact fun _ => rfl; decide; exact hlo) | ((with_reducible apply (RS.sliceRow (w := leakW) (e2 := 90) (l0 := b.leaks) (j := 3) (n := a.leaks.length) (sz := 3))); exact rfl; exact rfl; exact rfl; exact rfl; exact rfl; exact rfl; exact fun _ => rfl; decide; exact hll) | ((with_reducible apply (RS.callR (v := .bool true) (vs := [rowVl 1 (reX π1 0 [] 0) a.out, preVl 1 (π1 2) a.out.length b.out]) false [0, 2])); exact rfl; exact rfl; exact rfl; exact fun H hH => hnums _ _ _ (hH.l 0 rfl (by simp)) (hH.l 2 rfl (by simp)); exact Nm_free (by simp)) | ((with_reducible apply (RS.callR (v := .bool true) (vs := [rowVl 3 (reX π1 0 [] 1) a.leaks, preVl 3 (π1 3) a.leaks.length b.leaks]) false [1, 3])); exact rfl; exact rfl; exact rfl; exact fun H hH => hleaks _ _ _ (hH.l 1 rfl (by simp)) (hH.l 3 rfl (by simp)); exact Nm_free (by simp)) | ((with_reducible apply RS.move); exact rfl; exact rfl; exact rfl) | ((with_reducible apply RS.assign); exact rfl; exact rfl; exact rfl) | ((with_reducible apply RS.pickT); exact rfl; exact rfl; exact rfl; exact rfl) | ((with_reducible apply RS.pickF); exact rfl; exact rfl; exact rfl; exact rfl) | ((with_reducible apply RS.cmpF); exact rfl; exact rfl; exact rfl; exact rfl; (simp only [cmpN]; omega)) | ((with_reducible apply RS.binFit); exact rfl; exact rfl; exact rfl; exact rfl; exact rfl; omega) | ((with_reducible apply RS.not); exact rfl; exact rfl; exact rfl) | ((with_reducible apply RS.fieldAddr); exact rfl; exact rfl; exact rfl) | ((with_reducible apply RS.load1); exact rfl; exact rfl; exact rfl; exact rfl; exact rfl; exact rfl) | ((with_reducible apply RS.alloc); exact rfl; exact rfl) | ((with_reducible apply RS.nil); exact mixed; kernel_rfl) | ((with_reducible apply W.seq)) | ((with_reducible apply W.reg); kernel_rfl) | ((with_reducible apply W.ret)) | ((with_reducible apply W.skip)) | ((with_reducible apply W.condF); kernel_rfl; exact rfl) | ((with_reducible apply thenK_n)))
        exact endsK_ret _ (.cons (.tmp rfl) .nil) ⟨hup, rfl⟩
      · obtain ⟨e1, e2, e3⟩ := hlaw.same h42
        repeat (first | ((with_reducible apply RS.callB); exact rfl; exact rfl; exact rfl; exact fun H hH => (Fit_tf H); exact Nm_free (by simp)) | ((with_reducible apply (RS.loadNB (vs := progC p P1 d1 P2 d2))); exact rfl; exact rfl; exact rfl; exact m0; exact hpb; exact Nat.le_refl _; exact rfl) | ((with_reducible apply (RS.loadNF (vs := [.slice A1 n1 c1, .slice A2 n2 c2]))); exact rfl; exact rfl; exact rfl; exact m1; exact hib; exact Nat.le_refl _; exact rfl; exact hbv) | ((with_reducible apply RS.moveF); exact rfl; exact rfl; exact rfl) | ((with_reducible apply RS.cmpF); exact rfl; exact rfl; exact rfl; exact rfl; exact rfl) | ((with_reducible apply (RS.callR (v := .bool true) true [])); exact rfl; exact rfl; exact rfl; exact fun H hH => (show TF _ _ _ H (.bool true) H by rw [← hl]; exact Light_tf p hok H P1 d1 P2 d2 (hp.up (sees_up hH hd)).fs (hp.up (sees_up hH hd)).gs); exact Nm_free (by simp)) | ((with_reducible apply (RS.callR (v := .bool true) true [])); exact rfl; exact rfl; exact rfl; exact fun H hH => (show TF _ _ _ H (.bool true) H by rw [← hsh]; exact Short_tf A1 n1 c1 A2 n2 c2 H); exact Nm_free (by simp)) | ((with_reducible apply RS.remE); exact rfl; exact rfl; exact rfl; exact rfl; decide; exact hr) | ((with_reducible apply RS.remE); exact rfl; exact rfl; exact rfl; exact rfl; decide; exact hf) | ((with_reducible apply (RS.callO (vs := []) [] 2)); exact rfl; exact rfl; exact hrunA; exact rfl; exact rfl; exact trivial; exact trivial) | ((with_reducible apply (RS.callO (vs := []) [] 2)); exact rfl; exact rfl; exact hrunB; exact rfl; exact rfl; exact trivial; exact trivial) | ((with_reducible apply RS.store); exact rfl; exact rfl; exact rfl; exact rfl; exact rfl; exact Nat.le_of_ble_eq_true rfl; exact rfl; exact res_one; exact rfl) | ((with_reducible apply RS.lenRow); exact rfl; exact rfl; exact rfl) | ((with_reducible apply RS.move); exact rfl; exact rfl; exact rfl) | ((with_reducible apply RS.assign); exact rfl; exact rfl; exact rfl) | ((with_reducible apply RS.pickT); exact rfl; exact rfl; exact rfl; exact rfl) | ((with_reducible apply RS.pickF); exact rfl; exact rfl; exact rfl; exact rfl) | ((with_reducible apply RS.cmpT); exact rfl; exact rfl; exact rfl; exact rfl; (simp only [cmpP]; omega)) | ((with_reducible apply RS.cmpF); exact rfl; exact rfl; exact rfl; exact rfl; (simp only [cmpN]; omega)) | ((with_reducible apply RS.binFit); exact rfl; exact rfl; exact rfl; exact rfl; exact rfl; omega) | ((with_reducible apply RS.not); exact rfl; exact rfl; exact rfl) | ((with_reducible apply RS.fieldAddr); exact rfl; exact rfl; exact rfl) | ((with_reducible apply RS.load1); exact rfl; exact rfl; exact rfl; exact rfl; exact rfl; exact rfl) | ((with_reducible apply RS.alloc); exact rfl; exact rfl) | ((with_reducible apply RS.nil); exact mixed; kernel_rfl) | ((with_reducible apply W.seq)) | ((with_reducible apply W.reg); kernel_rfl) | ((with_reducible apply W.ret)) | ((with_reducible apply W.skip)) | ((with_reducible apply W.condT); kernel_rfl; exact rfl) | ((with_reducible apply W.condF); kernel_rfl; exact rfl) | ((with_reducible apply thenK_n)) | ((with_reducible apply thenK_r)))
        exact endsK_ret _ (.cons (.tmp rfl) .nil) ⟨hup, rfl⟩
    · have hsh : (decide (n1 < 3000) && decide (n2 < 3000)) = false := by simpa using hsh
      repeat (first | ((with_reducible apply RS.callB); exact rfl; exact rfl; exact rfl; exact fun H hH => (Fit_tf H); exact Nm_free (by simp)) | ((with_reducible apply (RS.loadNB (vs := progC p P1 d1 P2 d2))); exact rfl; exact rfl; exact rfl; exact m0; exact hpb; exact Nat.le_refl _; exact rfl) | ((with_reducible apply (RS.loadNF (vs := [.slice A1 n1 c1, .slice A2 n2 c2]))); exact rfl; exact rfl; exact rfl; exact m1; exact hib; exact Nat.le_refl _; exact rfl; exact hbv) | ((with_reducible apply (RS.callR (v := .bool true) true [])); exact rfl; exact rfl; exact rfl; exact fun H hH => (show TF _ _ _ H (.bool true) H by rw [← hl]; exact Light_tf p hok H P1 d1 P2 d2 (hp.up (sees_up hH hd)).fs (hp.up (sees_up hH hd)).gs); exact Nm_free (by simp)) | ((with_reducible apply (RS.callR (v := .bool false) true [])); exact rfl; exact rfl; exact rfl; exact fun H hH => (show TF _ _ _ H (.bool false) H by rw [← hsh]; exact Short_tf A1 n1 c1 A2 n2 c2 H); exact Nm_free (by simp)) | ((with_reducible apply RS.move); exact rfl; exact rfl; exact rfl) | ((with_reducible apply RS.assign); exact rfl; exact rfl; exact rfl) | ((with_reducible apply RS.pickF); exact rfl; exact rfl; exact rfl; exact rfl) | ((with_reducible apply RS.not); exact rfl; exact rfl; exact rfl) | ((with_reducible apply RS.nil); exact mixed; kernel_rfl) | ((with_reducible apply W.seq)) | ((with_reducible apply W.reg); kernel_rfl) | ((with_reducible apply W.ret)) | ((with_reducible apply W.skip)) | ((with_reducible apply W.condT); kernel_rfl; exact rfl) | ((with_reducible apply W.condF); kernel_rfl; exact rfl) | ((with_reducible apply thenK_n)) | ((with_reducible apply thenK_r)))
      exact endsK_ret _ (.cons (.tmp rfl) .nil) ⟨hup, rfl⟩
  · have hl : lightP p = false := by simpa using hl
    repeat (first | ((with_reducible apply RS.callB); exact rfl; exact rfl; exact rfl; exact fun H hH => (Fit_tf H); exact Nm_free (by simp)) | ((with_reducible apply (RS.loadNB (vs := progC p P1 d1 P2 d2))); exact rfl; exact rfl; exact rfl; exact m0; exact hpb; exact Nat.le_refl _; exact rfl) | ((with_reducible apply (RS.callR (v := .bool false) true [])); exact rfl; exact rfl; exact rfl; exact fun H hH => (show TF _ _ _ H (.bool false) H by rw [← hl]; exact Light_tf p hok H P1 d1 P2 d2 (hp.up (sees_up hH hd)).fs (hp.up (sees_up hH hd)).gs); exact Nm_free (by simp)) | ((with_reducible apply RS.move); exact rfl; exact rfl; exact rfl) | ((with_reducible apply RS.assign); exact rfl; exact rfl; exact rfl) | ((with_reducible apply RS.pickT); exact rfl; exact rfl; exact rfl; exact rfl) | ((with_reducible apply RS.not); exact rfl; exact rfl; exact rfl) | ((with_reducible apply RS.skip); exact rfl; exact rfl) | ((with_reducible apply RS.nil); exact mixed; kernel_rfl) | ((with_reducible apply W.seq)) | ((with_reducible apply W.reg); kernel_rfl) | ((with_reducible apply W.ret)) | ((with_reducible apply W.skip)) | ((with_reducible apply W.condT); kernel_rfl; exact rfl) | ((with_reducible apply W.condF); kernel_rfl; exact rfl) | ((with_reducible apply thenK_n)) | ((with_reducible apply thenK_r)))
    exact endsK_ret _ (.cons (.tmp rfl) .nil) ⟨hup, rfl⟩
end Go.Proofs.Ytjhloakacicdiaa
namespace Go.Proofs.Ytjhloakacicdiaa
open Go.AH
def upF (s : RunS) : RunS := { s with fuel := s.fuel + 100 }
structure Grow (s t : RunS) : Prop where
  out : ∃ x, t.out = x ++ s.out
  leaks : ∃ x, t.leaks = x ++ s.leaks
theorem Grow.same {s t : RunS} (h1 : t.out = s.out) (h2 : t.leaks = s.leaks) : Grow s t := ⟨⟨[], h1⟩, ⟨[], h2⟩⟩
theorem Grow.refl (s : RunS) : Grow s s := .same rfl rfl
theorem Grow.trans {a b c : RunS} (h : Grow a b) (g : Grow b c) : Grow a c := by
  obtain ⟨⟨x, hx⟩, ⟨y, hy⟩⟩ := h
  obtain ⟨⟨x', hx'⟩, ⟨y', hy'⟩⟩ := g
  exact ⟨⟨x' ++ x, by rw [hx', hx, List.append_assoc]⟩, ⟨y' ++ y, by rw [hy', hy, List.append_assoc]⟩⟩
theorem stepS_grow (s : RunS) : Grow s (stepS s) := by
  unfold stepS
  split
  · split <;> exact .same rfl rfl
  · exact .refl s
theorem stopS_grow (s : RunS) (e : Int) : Grow s (stopS s e) := by
  unfold stopS
  split
  · exact .same rfl rfl
  · exact .refl s
theorem leakS_grow (s : RunS) (x : LeakS) : Grow s (leakS s x) := ⟨⟨[], rfl⟩, ⟨[x], rfl⟩⟩
theorem loadS_grow (s : RunS) (at_ : Int) (n : Nat) (sg : Bool) : Grow s (loadS s at_ n sg).2 := by
  unfold loadS
  split
  · exact leakS_grow _ _
  · split
    · exact leakS_grow _ _
    · exact (leakS_grow _ _).trans (stopS_grow _ _)
theorem storeS_grow (s : RunS) (at_ : Int) (n : Nat) (v : Int) : Grow s (storeS s at_ n v) := by
  unfold storeS
  split
  · exact ⟨⟨[], rfl⟩, ⟨[_], rfl⟩⟩
  · split
    · exact ⟨⟨[], rfl⟩, ⟨[_], rfl⟩⟩
    · exact (leakS_grow _ _).trans (stopS_grow _ _)
theorem insS_tail {p : ProgS} {cl : RunS → List Int → InsS → Int × RunS} (hc : ∀ s regs x, Grow s (cl s regs x).2) (at_ : List Int) (s : RunS) (regs : List Int) (x : InsS) : Grow (stepS s) (insS p cl at_ s regs x).1 := by
  have h1 := Grow.refl (stepS s)
  refine insS_elim (Q := fun r => Grow (stepS s) r.1) (fun _ => h1) (fun _ _ => h1) (fun _ _ => ?_) (fun _ _ => h1) (fun _ _ => h1) (fun _ _ => h1) (fun _ _ => h1) (fun _ _ => loadS_grow _ _ _ _) (fun _ _ => storeS_grow _ _ _ _) (fun _ _ => ?_) (fun _ _ _ _ _ => hc _ _ _)
  · dsimp only
    split
    · exact h1
    · exact stopS_grow _ _
  · dsimp only
    split
    · exact stopS_grow _ _
    · exact ⟨⟨[_], rfl⟩, ⟨[], rfl⟩⟩
theorem insS_grow {p : ProgS} {cl : RunS → List Int → InsS → Int × RunS} (hc : ∀ s regs x, Grow s (cl s regs x).2) (at_ : List Int) (s : RunS) (regs : List Int) (x : InsS) : Grow s (insS p cl at_ s regs x).1 := by
  exact (stepS_grow s).trans (insS_tail hc at_ s regs x)
theorem callsS_grow {p : ProgS} {cl : RunS → Int → List Int → Int × RunS} (hc : ∀ s n args, Grow s (cl s n args).2) (s : RunS) (regs : List Int) (x : InsS) : Grow s (callsS p cl s regs x).2 := by
  unfold callsS
  repeat' split
  all_goals first
    | exact hc _ _ _
    | exact (leakS_grow _ _).trans (hc _ _ _)
    | exact (leakS_grow _ _).trans (stopS_grow _ _)
theorem runIns_grow {ins : RunS → List Int → InsS → RunS × List Int} (hi : ∀ s regs x, Grow s (ins s regs x).1) : ∀ (l : List InsS) (s : RunS) (regs : List Int), Grow s (runIns ins l s regs).1 := by
  intro l
  induction l with
  | nil => intro s regs; exact .refl s
  | cons x l ih =>
    intro s regs
    rw [runIns]
    split
    · exact (hi s regs x).trans (ih _ _)
    · exact hi s regs x
theorem blocksS_grow {ins : RunS → List Int → InsS → RunS × List Int} (hi : ∀ s regs x, Grow s (ins s regs x).1) (f : FuncS) : ∀ (k : Nat) (bi : Int) (s : RunS) (regs : List Int), Grow s (blocksS ins f k bi s regs).2.1 := by
  intro k
  induction k with
  | zero => intro bi s regs; exact .refl s
  | succ k ih =>
    intro bi s regs
    rw [blocksS]
    split
    · split
      · exact .refl s
      · rename_i b hb
        have h1 := runIns_grow hi b.ins s regs
        have h2 := h1.trans (stepS_grow _)
        repeat' split
        all_goals first
          | exact h1
          | exact h2
          | exact h2.trans (ih _ _ _)
          | exact h2.trans ((leakS_grow _ _).trans (ih _ _ _))
    · exact .refl s
theorem callK_grow (p : ProgS) (N : Nat) : ∀ (d : Nat) (s : RunS) (n : Int) (args : List Int), Grow s (callK p N d s n args).2 := by
  intro d
  induction d with
  | zero => intro s n args; exact .refl s
  | succ d ih =>
    intro s n args
    rw [callK]
    split
    · exact (Grow.same rfl rfl : Grow s { s with deep := s.deep + 1 }).trans (stopS_grow _ _)
    · split
      · exact .refl s
      · rename_i f hf
        have h1 : Grow s (spDone s f) := .same rfl rfl
        have h2 := h1.trans (blocksS_grow (insS_grow (p := p) (callsS_grow (p := p) ih) (rowAt s.sp f.slots f.slots.length)) f N 0 (spDone s f) (regsS f args))
        exact h2.trans (.same rfl rfl)
def RelI (r r' : RunS × List Int) : Prop := r' = (upF r.1, r.2) ∨ (r.1.fin = 42 ∧ Grow r.1 r'.1)
def RelC (r r' : Int × RunS) : Prop := r' = (r.1, upF r.2) ∨ (r.2.fin = 42 ∧ Grow r.2 r'.2)
def RelB (r r' : Int × RunS × List Int) : Prop := r' = (r.1, upF r.2.1, r.2.2) ∨ (r.2.1.fin = 42 ∧ Grow r.2.1 r'.2.1)
theorem stepS_rel (s : RunS) : stepS (upF s) = upF (stepS s) ∨ ((stepS s).fin = 42 ∧ Grow (stepS s) (stepS (upF s)) ∧ s.fin = 0) := by
  unfold stepS
  by_cases h0 : s.fin = 0
  · rw [if_pos (show (upF s).fin = 0 from h0), if_pos h0]
    by_cases h1 : s.steps ≥ s.fuel
    · right
      rw [if_pos h1]
      refine ⟨rfl, ?_, h0⟩
      split <;> exact .same rfl rfl
    · left
      rw [if_neg h1, if_neg (show ¬ (upF s).steps ≥ (upF s).fuel from by show ¬ s.steps ≥ s.fuel + 100; omega)]
      rfl
  · left
    rw [if_neg (show ¬ (upF s).fin = 0 from h0), if_neg h0]
theorem stopS_up (s : RunS) (e : Int) : stopS (upF s) e = upF (stopS s e) := by
  unfold stopS
  by_cases h0 : s.fin = 0
  · rw [if_pos (show (upF s).fin = 0 from h0), if_pos h0]; rfl
  · rw [if_neg (show ¬ (upF s).fin = 0 from h0), if_neg h0]
theorem leakS_up (s : RunS) (x : LeakS) : leakS (upF s) x = upF (leakS s x) := rfl
theorem loadS_up (s : RunS) (at_ : Int) (n : Nat) (sg : Bool) : loadS (upF s) at_ n sg = ((loadS s at_ n sg).1, upF (loadS s at_ n sg).2) := by
  unfold loadS
  by_cases h1 : inData s at_ n
  · rw [if_pos (show inData (upF s) at_ n from h1), if_pos h1]; rfl
  · rw [if_neg (show ¬ inData (upF s) at_ n from h1), if_neg h1]
    by_cases h2 : inStack s at_ n
    · rw [if_pos (show inStack (upF s) at_ n from h2), if_pos h2]; rfl
    · rw [if_neg (show ¬ inStack (upF s) at_ n from h2), if_neg h2, leakS_up, stopS_up]
theorem storeS_up (s : RunS) (at_ : Int) (n : Nat) (v : Int) : storeS (upF s) at_ n v = upF (storeS s at_ n v) := by
  unfold storeS
  by_cases h1 : inData s at_ n
  · rw [if_pos (show inData (upF s) at_ n from h1), if_pos h1]; rfl
  · rw [if_neg (show ¬ inData (upF s) at_ n from h1), if_neg h1]
    by_cases h2 : inStack s at_ n
    · rw [if_pos (show inStack (upF s) at_ n from h2), if_pos h2]; rfl
    · rw [if_neg (show ¬ inStack (upF s) at_ n from h2), if_neg h2, leakS_up, stopS_up]
theorem insS_rel {p : ProgS} {cl : RunS → List Int → InsS → Int × RunS} (hg : ∀ s regs x, Grow s (cl s regs x).2) (hc : ∀ s regs x, RelC (cl s regs x) (cl (upF s) regs x)) (at_ : List Int) (s : RunS) (regs : List Int) (x : InsS) : RelI (insS p cl at_ s regs x) (insS p cl at_ (upF s) regs x) := by
  have htail := insS_tail (p := p) hg at_ (upF s) regs x
  rcases stepS_rel s with h | ⟨h1, h2, _⟩
  · unfold insS
    rw [h]
    generalize stepS s = t
    by_cases h0 : t.fin = 0
    · rw [if_pos (show (upF t).fin = 0 from h0), if_pos h0]
      by_cases o1 : x.op = 1 ∨ x.op = 2
      · rw [if_pos o1, if_pos o1]; exact .inl rfl
      rw [if_neg o1, if_neg o1]
      by_cases o2 : twoS x.op = true
      · rw [if_pos o2, if_pos o2]
        left
        by_cases q : (reckonS x.op (argS regs x.a) (argS regs x.b)).2 = true
        · rw [if_pos q, if_pos q]
        · rw [if_neg q, if_neg q, stopS_up]
      rw [if_neg o2, if_neg o2]
      by_cases o3 : x.op = 22
      · rw [if_pos o3, if_pos o3]; exact .inl rfl
      rw [if_neg o3, if_neg o3]
      by_cases o4 : x.op = 23
      · rw [if_pos o4, if_pos o4]; exact .inl rfl
      rw [if_neg o4, if_neg o4]
      by_cases o5 : x.op = 24
      · rw [if_pos o5, if_pos o5]; exact .inl rfl
      rw [if_neg o5, if_neg o5]
      by_cases o6 : x.op = 25
      · rw [if_pos o6, if_pos o6]; exact .inl rfl
      rw [if_neg o6, if_neg o6]
      by_cases o7 : x.op = 26
      · rw [if_pos o7, if_pos o7, loadS_up]; exact .inl rfl
      rw [if_neg o7, if_neg o7]
      by_cases o8 : x.op = 27
      · rw [if_pos o8, if_pos o8, storeS_up]; exact .inl rfl
      rw [if_neg o8, if_neg o8]
      by_cases o9 : x.op = 30
      · rw [if_pos o9, if_pos o9]
        left
        by_cases q : t.out.length = 10000
        · rw [if_pos (show (upF t).out.length = 10000 from q), if_pos q, stopS_up]
        · rw [if_neg (show ¬ (upF t).out.length = 10000 from q), if_neg q]; rfl
      rw [if_neg o9, if_neg o9]
      rcases hc t regs x with e | ⟨e1, e2⟩
      · left; rw [e]
      · exact .inr ⟨e1, e2⟩
    · rw [if_neg (show ¬ (upF t).fin = 0 from h0), if_neg h0]; exact .inl rfl
  · have e : insS p cl at_ s regs x = (stepS s, regs) := by unfold insS; rw [if_neg (by rw [h1]; decide)]
    rw [e]
    exact .inr ⟨h1, h2.trans htail⟩
theorem callsS_rel {p : ProgS} {cl : RunS → Int → List Int → Int × RunS} (hc : ∀ s n args, RelC (cl s n args) (cl (upF s) n args)) (s : RunS) (regs : List Int) (x : InsS) : RelC (callsS p cl s regs x) (callsS p cl (upF s) regs x) := by
  unfold callsS
  by_cases o : x.op = 29
  · rw [if_pos o, if_pos o]
    by_cases q : placeAt (argS regs x.a) < 0 ∨ ¬ (placeAt (argS regs x.a)).tmod 16 = 0 ∨ (p.funcs.length : Int) ≤ funcAt (argS regs x.a)
    · rw [if_pos q, if_pos q, leakS_up, stopS_up]; exact .inl rfl
    · rw [if_neg q, if_neg q]
      by_cases q2 : paramsAt p (funcAt (argS regs x.a)) = some (x.args.length : Int)
      · rw [if_pos q2, if_pos q2, leakS_up]; exact hc _ _ _
      · rw [if_neg q2, if_neg q2, leakS_up, stopS_up]; exact .inl rfl
  · rw [if_neg o, if_neg o]; exact hc _ _ _
theorem runIns_rel {ins : RunS → List Int → InsS → RunS × List Int} (hg : ∀ s regs x, Grow s (ins s regs x).1) (hi : ∀ s regs x, RelI (ins s regs x) (ins (upF s) regs x)) : ∀ (l : List InsS) (s : RunS) (regs : List Int), RelI (runIns ins l s regs) (runIns ins l (upF s) regs) := by
  intro l
  induction l with
  | nil => intro s regs; exact .inl rfl
  | cons x l ih =>
    intro s regs
    rw [runIns, runIns]
    rcases hi s regs x with h | ⟨h1, h2⟩
    · rw [h]
      dsimp only
      by_cases h0 : (ins s regs x).1.fin = 0
      · rw [if_pos (show (upF (ins s regs x).1).fin = 0 from h0), if_pos h0]; exact ih _ _
      · rw [if_neg (show ¬ (upF (ins s regs x).1).fin = 0 from h0), if_neg h0]; exact .inl rfl
    · rw [if_neg (show ¬ (ins s regs x).1.fin = 0 from by rw [h1]; decide)]
      refine .inr ⟨h1, ?_⟩
      split
      · exact h2.trans (runIns_grow hg _ _ _)
      · exact h2
def tailB (ins : RunS → List Int → InsS → RunS × List Int) (f : FuncS) (k : Nat) (b : BlockS) (r : RunS × List Int) : Int × RunS × List Int :=
  if r.1.fin = 0 then
    if (stepS r.1).fin = 0 then
      if b.term.kind = 3 then (argS r.2 b.term.a, stepS r.1, r.2)
      else if b.term.kind = 1 then blocksS ins f k b.term.goto (stepS r.1) r.2
      else if holdsS b.term.op (argS r.2 b.term.a) (argS r.2 b.term.b) = true then blocksS ins f k b.term.goto (leakS (stepS r.1) (leakB true)) r.2
      else blocksS ins f k b.term.els (leakS (stepS r.1) (leakB false)) r.2
    else (0, stepS r.1, r.2)
  else (0, r.1, r.2)
theorem blocksS_tail (ins : RunS → List Int → InsS → RunS × List Int) (f : FuncS) (k : Nat) (bi : Int) (s : RunS) (regs : List Int) (h0 : s.fin = 0) (b : BlockS) (hb : f.blocks[bi.toNat]? = some b) : blocksS ins f (k + 1) bi s regs = tailB ins f k b (runIns ins b.ins s regs) := by
  rw [blocksS, if_pos h0, hb]; rfl
theorem tailB_step {ins : RunS → List Int → InsS → RunS × List Int} (hi : ∀ s regs x, Grow s (ins s regs x).1) (f : FuncS) (k : Nat) (b : BlockS) (r : RunS × List Int) (h0 : r.1.fin = 0) : Grow (stepS r.1) (tailB ins f k b r).2.1 := by
  unfold tailB
  rw [if_pos h0]
  repeat' split
  all_goals first
    | exact .refl _
    | exact blocksS_grow hi _ _ _ _ _
    | exact (leakS_grow _ _).trans (blocksS_grow hi _ _ _ _ _)
theorem tailB_grow {ins : RunS → List Int → InsS → RunS × List Int} (hi : ∀ s regs x, Grow s (ins s regs x).1) (f : FuncS) (k : Nat) (b : BlockS) (r : RunS × List Int) : Grow r.1 (tailB ins f k b r).2.1 := by
  by_cases h0 : r.1.fin = 0
  · exact (stepS_grow _).trans (tailB_step hi f k b r h0)
  · unfold tailB; rw [if_neg h0]; exact .refl _
theorem blocksS_rel {ins : RunS → List Int → InsS → RunS × List Int} (hg : ∀ s regs x, Grow s (ins s regs x).1) (hi : ∀ s regs x, RelI (ins s regs x) (ins (upF s) regs x)) (f : FuncS) : ∀ (k : Nat) (bi : Int) (s : RunS) (regs : List Int), RelB (blocksS ins f k bi s regs) (blocksS ins f k bi (upF s) regs) := by
  intro k
  induction k with
  | zero => intro bi s regs; exact .inl rfl
  | succ k ih =>
    intro bi s regs
    by_cases hs : s.fin = 0
    · cases hb : f.blocks[bi.toNat]? with
      | none =>
        rw [blocksS, blocksS, if_pos hs, if_pos (show (upF s).fin = 0 from hs), hb]; exact .inl rfl
      | some b =>
        rw [blocksS_tail ins f k bi s regs hs b hb, blocksS_tail ins f k bi (upF s) regs hs b hb]
        rcases runIns_rel hg hi b.ins s regs with e | ⟨e1, e2⟩
        · rw [e]
          generalize runIns ins b.ins s regs = r
          by_cases h0 : r.1.fin = 0
          · rcases stepS_rel r.1 with h | ⟨h1, h2, _⟩
            · unfold tailB
              rw [if_pos h0, if_pos (show (upF r.1).fin = 0 from h0)]
              dsimp only
              rw [h]
              generalize stepS r.1 = t
              by_cases ht : t.fin = 0
              · rw [if_pos ht, if_pos (show (upF t).fin = 0 from ht)]
                by_cases q3 : b.term.kind = 3
                · rw [if_pos q3, if_pos q3]; exact .inl rfl
                rw [if_neg q3, if_neg q3]
                by_cases q1 : b.term.kind = 1
                · rw [if_pos q1, if_pos q1]; exact ih _ _ _
                rw [if_neg q1, if_neg q1]
                by_cases qh : holdsS b.term.op (argS r.2 b.term.a) (argS r.2 b.term.b) = true
                · rw [if_pos qh, if_pos qh, leakS_up]; exact ih _ _ _
                · rw [if_neg qh, if_neg qh, leakS_up]; exact ih _ _ _
              · rw [if_neg ht, if_neg (show ¬ (upF t).fin = 0 from ht)]; exact .inl rfl
            · have e3 : tailB ins f k b r = (0, stepS r.1, r.2) := by unfold tailB; rw [if_pos h0, if_neg (by rw [h1]; decide)]
              rw [e3]
              exact .inr ⟨h1, h2.trans (tailB_step hg f k b (upF r.1, r.2) h0)⟩
          · unfold tailB
            rw [if_neg h0, if_neg (show ¬ (upF r.1).fin = 0 from h0)]; exact .inl rfl
        · have e3 : tailB ins f k b (runIns ins b.ins s regs) = (0, (runIns ins b.ins s regs).1, (runIns ins b.ins s regs).2) := by unfold tailB; rw [if_neg (by rw [e1]; decide)]
          rw [e3]
          exact .inr ⟨e1, e2.trans (tailB_grow hg f k b _)⟩
    · rw [blocksS, blocksS, if_neg hs, if_neg (show ¬ (upF s).fin = 0 from hs)]; exact .inl rfl
theorem callK_rel (p : ProgS) (N : Nat) : ∀ (d : Nat) (s : RunS) (n : Int) (args : List Int), RelC (callK p N d s n args) (callK p N d (upF s) n args) := by
  intro d
  induction d with
  | zero => intro s n args; exact .inl rfl
  | succ d ih =>
    intro s n args
    rw [callK, callK]
    by_cases h1 : 100 < s.deep + 1
    · rw [if_pos h1, if_pos (show 100 < (upF s).deep + 1 from h1)]
      left
      rw [show ({ upF s with deep := (upF s).deep + 1 } : RunS) = upF { s with deep := s.deep + 1 } from rfl, stopS_up]
    · rw [if_neg h1, if_neg (show ¬ 100 < (upF s).deep + 1 from h1)]
      cases hf : p.funcs[n.toNat]? with
      | none => exact .inl rfl
      | some f =>
        dsimp only
        have := blocksS_rel (insS_grow (p := p) (callsS_grow (p := p) (callK_grow p N d)) (rowAt s.sp f.slots f.slots.length)) (insS_rel (p := p) (callsS_grow (p := p) (callK_grow p N d)) (callsS_rel (p := p) ih) (rowAt s.sp f.slots f.slots.length)) f N 0 (spDone s f) (regsS f args)
        rw [show spDone (upF s) f = upF (spDone s f) from rfl, show (upF s).sp = s.sp from rfl]
        rcases this with e | ⟨e1, e2⟩
        · left; rw [e]; rfl
        · obtain ⟨⟨x, hx⟩, ⟨y, hy⟩⟩ := e2
          exact .inr ⟨e1, ⟨⟨x, hx⟩, ⟨y, hy⟩⟩⟩
theorem runS_up (p : ProgS) (N : Nat) (pub sec : List Int) (f : Int) : runS p N pub sec (f + 100) = upF (runS p N pub sec f) ∨ ((runS p N pub sec f).fin = 42 ∧ Grow (runS p N pub sec f) (runS p N pub sec (f + 100))) := by
  unfold runS
  generalize List.replicate 416000 (0 : Int) = stk
  generalize dataS p pub sec = dat
  have h := callK_rel p N 101 (startS f dat stk) p.main []
  rw [show upF (startS f dat stk) = startS (f + 100) dat stk from rfl] at h
  generalize callK p N 101 (startS f dat stk) p.main [] = r at *
  generalize callK p N 101 (startS (f + 100) dat stk) p.main [] = r' at *
  unfold endS
  rcases h with rfl | ⟨h1, h2⟩
  · left
    by_cases h0 : r.2.fin = 0
    · rw [if_pos h0, if_pos (show (upF r.2).fin = 0 from h0)]; rfl
    · rw [if_neg h0, if_neg (show ¬ (upF r.2).fin = 0 from h0)]
  · right
    rw [if_neg (show ¬ r.2.fin = 0 from by rw [h1]; decide)]
    refine ⟨h1, ?_⟩
    split
    · exact h2.trans (.same rfl rfl)
    · exact h2
theorem fuel_law (p : ProgS) (N : Nat) (pub sec : List Int) (f : Int) (h1 : RunBd (runR p N pub sec f) f) (h2 : RunBd (runR p N pub sec (f + 100)) (f + 100)) : FuelOK (runR p N pub sec f) (runR p N pub sec (f + 100)) f := by
  refine ⟨?_, ?_, h1.steps, ?_, ⟨h1.out, h2.out⟩, ⟨h1.leaks, h2.leaks⟩⟩
  all_goals
    unfold runR
    by_cases hr : rightP p = true
  · rw [if_pos hr, if_pos hr]
    rcases runS_up p N pub sec f with e | ⟨_, e⟩
    · rw [e]; exact ⟨[], rfl⟩
    · exact e.out
  · rw [if_neg hr, if_neg hr]; exact ⟨[], rfl⟩
  · rw [if_pos hr, if_pos hr]
    rcases runS_up p N pub sec f with e | ⟨_, e⟩
    · rw [e]; exact ⟨[], rfl⟩
    · exact e.leaks
  · rw [if_neg hr, if_neg hr]; exact ⟨[], rfl⟩
  · rw [if_pos hr, if_pos hr]
    intro h42
    rcases runS_up p N pub sec f with e | ⟨e, _⟩
    · rw [e]; exact ⟨rfl, rfl, rfl⟩
    · exact absurd e h42
  · rw [if_neg hr, if_neg hr]; exact fun _ => ⟨rfl, rfl, rfl⟩
end Go.Proofs.Ytjhloakacicdiaa
namespace Go.Proofs.Ytjhloakacicdiaa
open Go.AH
variable {H : Type} {enc : TypeId × Value → H} {G : Nat} {g0 : Nat → Option Blk} {W : World}
theorem RowΦ_list {T : Type} {R : Hp → List Value → T → Prop} {K : T → Prop} {w M : Nat} {h : Hp} {acs : List Value} (hr : RowΦ w M (fun h a => ∃ x, R h a x ∧ K x) h acs) :
    ∃ (A : Option Addr) (c : Nat) (l : List T), acs = [.slice A l.length c] ∧ SlAt h A w l (R h) ∧ (∀ x ∈ l, K x) ∧ l.length ≤ M ∧ l.length ≤ c ∧ c < capMark ∧ (A = none → c = 0) := by
  obtain ⟨A, c, accs, e, r, h1, h2, h3, h4⟩ := hr
  have build : ∀ al : List (List Value), (∀ a ∈ al, ∃ x, R h a x ∧ K x) → ∃ l : List T, l.length = al.length ∧ (∀ x ∈ l, K x) ∧ ∀ (i : Nat) (x : T), l[i]? = some x → ∃ a, al[i]? = some a ∧ R h a x := by
    intro al
    induction al with
    | nil => intro _; exact ⟨[], rfl, (fun x hx => by cases hx), fun i x hx => by simp at hx⟩
    | cons a al ih =>
      intro ha
      obtain ⟨x, hx, hk⟩ := ha a (by simp)
      obtain ⟨l, q1, q2, q3⟩ := ih fun b hb => ha b (by simp [hb])
      refine ⟨x :: l, by simp [q1], fun y hy => ?_, fun i y hy => ?_⟩
      · rcases List.mem_cons.1 hy with rfl | hy
        · exact hk
        · exact q2 y hy
      · cases i with
        | zero => simp at hy; subst hy; exact ⟨a, rfl, hx⟩
        | succ i => simpa using q3 i y (by simpa using hy)
  obtain ⟨l, q1, q2, q3⟩ := build accs fun a ha => (r.all a ha).1
  refine ⟨A, c, l, by rw [q1]; exact e, ⟨fun i x hx => ?_⟩, q2, by omega, by omega, h3, h4⟩
  obtain ⟨a, ha, hR⟩ := q3 i x hx
  have ham := List.mem_of_getElem? ha
  obtain ⟨b, e', hA, hb⟩ := r.at_ (fun hn => by rw [hn] at ham; cases ham)
  have hwid : ∀ x ∈ accs, x.length = w := fun x hx => (r.all x hx).2
  have hi := (List.getElem?_eq_some_iff.1 ha).1
  refine ⟨b, 0, accs.flatten, e', hA, hb, ?_, ?_⟩
  · rw [flat_len hwid]
    have : (i + 1) * w ≤ accs.length * w := Nat.mul_le_mul_right _ hi
    rw [Nat.succ_mul] at this; omega
  · have : takeV (0 + i * w) w accs.flatten = a := by
      rw [takeV_eq]
      apply List.ext_getElem?
      intro j
      rw [List.getElem?_take]
      by_cases hj : j < w
      · rw [if_pos hj, List.getElem?_drop, Nat.zero_add, flat_get hwid i j hj, ha]; rfl
      · rw [if_neg hj, List.getElem?_eq_none (by rw [hwid a ham]; omega)]
    rw [this]; exact hR
theorem i64_fit {n : Int} (h1 : IntKind.i64.min ≤ n) (h2 : n ≤ IntKind.i64.max) : fitI n := by
  have e1 : IntKind.i64.min = -9223372036854775808 := by decide
  have e2 : IntKind.i64.max = 9223372036854775807 := by decide
  rw [e1] at h1; rw [e2] at h2
  exact ⟨h1, h2⟩
def intΦ (_ : Hp) (acs : List Value) : Prop := ∃ n, acs = [.int .i64 n] ∧ fitI n
theorem D_int {t : TypeId} {cs : List Value} (ht : Try.prog.underlying t = some (.int .i64)) (h : TW enc Try.prog W t cs) : D G g0 W cs 0 intΦ := (D.int ht h).mono (Nat.le_refl _) fun _ _ _ ⟨n, e, h1, h2⟩ => ⟨n, e, i64_fit h1 h2⟩
theorem up_int : UpΦ intΦ := fun _ _ _ _ h => h
def argΦ (_ : Hp) (acs : List Value) : Prop := ∃ a, argR acs a ∧ ArgS.ok a
theorem up_arg : UpΦ argΦ := fun _ _ _ _ h => h
theorem D_arg {cs : List Value} (h : TW enc Try.prog W 43 cs) : D G g0 W cs 0 argΦ := by
  obtain ⟨hl, hf⟩ := h.fields (l := [(3, 0, 1), (2, 1, 1)]) (n := 2) (by kernel_rfl) (by kernel_rfl)
  have := SegD.d (g0 := g0) (G := G) (off := 0) (cs := cs) (W := W) (l := [(1, 0, intΦ), (1, 0, intΦ)]) ⟨up_int, D_int (by kernel_rfl) (hf (3, 0, 1) (by simp)), up_int, D_int (by kernel_rfl) (hf (2, 1, 1) (by simp)), hl⟩
  refine D.mono this (by simp [segN]) ?_
  rintro H acs _ ⟨_, _, rfl, ⟨a, rfl, ha⟩, _, _, rfl, ⟨b, rfl, hb⟩, rfl⟩
  exact ⟨⟨a, b⟩, rfl, ha, hb⟩
def argsΦ : Hp → List Value → Prop := RowΦ 2 reachBytes argΦ
def insΦ (h : Hp) (acs : List Value) : Prop := ∃ x, insR h acs x ∧ InsS.ok x
theorem up_ins : UpΦ insΦ := fun _ _ _ hm ⟨x, hx, hk⟩ => ⟨x, insR_mono hm hx, hk⟩
def boolΦ (_ : Hp) (acs : List Value) : Prop := ∃ b, acs = [.bool b]
theorem up_bool : UpΦ boolΦ := fun _ _ _ _ h => h
def strΦ (_ : Hp) (acs : List Value) : Prop := ∃ s : ByteArray, acs = [.string s] ∧ s.size ≤ reachBytes
theorem up_str : UpΦ strΦ := fun _ _ _ _ h => h
theorem D_ins {cs : List Value} (h : TW enc Try.prog W 64 cs) : D G g0 W cs 1 insΦ := by
  obtain ⟨hl, hf⟩ := h.fields (l := [(3, 0, 1), (3, 1, 1), (43, 2, 2), (43, 4, 2), (3, 6, 1), (4, 7, 1), (4, 8, 1), (3, 9, 1), (2, 10, 1), (62, 11, 1)]) (n := 12) (by kernel_rfl) (by kernel_rfl)
  have := SegD.d (g0 := g0) (G := G) (off := 0) (cs := cs) (W := W) (l := [(1, 0, intΦ), (1, 0, intΦ), (2, 0, argΦ), (2, 0, argΦ), (1, 0, intΦ), (1, 0, boolΦ), (1, 0, boolΦ), (1, 0, intΦ), (1, 0, intΦ), (1, reachBytes * 0 + 1, argsΦ)])
    ⟨up_int, D_int (by kernel_rfl) (hf (3, 0, 1) (by simp)), up_int, D_int (by kernel_rfl) (hf (3, 1, 1) (by simp)), up_arg, D_arg (hf (43, 2, 2) (by simp)), up_arg, D_arg (hf (43, 4, 2) (by simp)), up_int, D_int (by kernel_rfl) (hf (3, 6, 1) (by simp)), up_bool, D.bool (by kernel_rfl) (hf (4, 7, 1) (by simp)), up_bool, D.bool (by kernel_rfl) (hf (4, 8, 1) (by simp)), up_int, D_int (by kernel_rfl) (hf (3, 9, 1) (by simp)), up_int, D_int (by kernel_rfl) (hf (2, 10, 1) (by simp)), RowΦ.up up_arg, D.row (e := 43) up_arg (by kernel_rfl) (by kernel_rfl) (by decide) (Nat.le_of_ble_eq_true (by kernel_rfl)) (fun c hc => D_arg hc) (hf (62, 11, 1) (by simp)), hl⟩
  refine D.mono this (by simp [segN]) ?_
  rintro H acs _ ⟨_, _, rfl, ⟨op, rfl, h1⟩, _, _, rfl, ⟨dst, rfl, h2⟩, _, _, rfl, ⟨a, rfl, h3⟩, _, _, rfl, ⟨b, rfl, h4⟩, _, _, rfl, ⟨size, rfl, h5⟩, _, _, rfl, ⟨sg, rfl⟩, _, _, rfl, ⟨sc, rfl⟩, _, _, rfl, ⟨ref, rfl, h6⟩, _, _, rfl, ⟨off, rfl, h7⟩, _, _, rfl, hr, rfl⟩
  obtain ⟨A, c, l, rfl, hs, hk, hn, _⟩ := RowΦ_list (R := fun _ => argR) hr
  exact ⟨⟨op, dst, a, b, size, sg, sc, ref, off, l⟩, ⟨A, c, rfl, hs⟩, h1, h2, h3, h4, h5, h6, h7, Nat.le_trans hn (by decide), hk⟩
def termΦ (_ : Hp) (acs : List Value) : Prop := ∃ t, acs = termC t ∧ TermS.ok t
theorem up_term : UpΦ termΦ := fun _ _ _ _ h => h
theorem D_term {cs : List Value} (h : TW enc Try.prog W 45 cs) : D G g0 W cs 0 termΦ := by
  obtain ⟨hl, hf⟩ := h.fields (l := [(3, 0, 1), (3, 1, 1), (43, 2, 2), (43, 4, 2), (3, 6, 1), (3, 7, 1)]) (n := 8) (by kernel_rfl) (by kernel_rfl)
  have := SegD.d (g0 := g0) (G := G) (off := 0) (cs := cs) (W := W) (l := [(1, 0, intΦ), (1, 0, intΦ), (2, 0, argΦ), (2, 0, argΦ), (1, 0, intΦ), (1, 0, intΦ)])
    ⟨up_int, D_int (by kernel_rfl) (hf (3, 0, 1) (by simp)), up_int, D_int (by kernel_rfl) (hf (3, 1, 1) (by simp)), up_arg, D_arg (hf (43, 2, 2) (by simp)), up_arg, D_arg (hf (43, 4, 2) (by simp)), up_int, D_int (by kernel_rfl) (hf (3, 6, 1) (by simp)), up_int, D_int (by kernel_rfl) (hf (3, 7, 1) (by simp)), hl⟩
  refine D.mono this (by simp [segN]) ?_
  rintro H acs _ ⟨_, _, rfl, ⟨k, rfl, h1⟩, _, _, rfl, ⟨op, rfl, h2⟩, _, _, rfl, ⟨a, rfl, h3⟩, _, _, rfl, ⟨b, rfl, h4⟩, _, _, rfl, ⟨g, rfl, h5⟩, _, _, rfl, ⟨e, rfl, h6⟩, rfl⟩
  exact ⟨⟨k, op, a, b, g, e⟩, rfl, h1, h2, h3, h4, h5, h6⟩
def blockΦ (h : Hp) (acs : List Value) : Prop := ∃ x, blockR h acs x ∧ BlockS.ok x
theorem up_block : UpΦ blockΦ := fun _ _ _ hm ⟨x, hx, hk⟩ => ⟨x, blockR_mono hm hx, hk⟩
theorem D_block {cs : List Value} (h : TW enc Try.prog W 47 cs) : D G g0 W cs (reachBytes * 1 + 1) blockΦ := by
  obtain ⟨hl, hf⟩ := h.fields (l := [(41, 0, 1), (45, 1, 8)]) (n := 9) (by kernel_rfl) (by kernel_rfl)
  have := SegD.d (g0 := g0) (G := G) (off := 0) (cs := cs) (W := W) (l := [(1, reachBytes * 1 + 1, RowΦ 12 reachBytes insΦ), (8, 0, termΦ)])
    ⟨RowΦ.up up_ins, D.row (e := 64) up_ins (by kernel_rfl) (by kernel_rfl) (by decide) (Nat.le_of_ble_eq_true (by kernel_rfl)) (fun c hc => D_ins hc) (hf (41, 0, 1) (by simp)), up_term, D_term (hf (45, 1, 8) (by simp)), hl⟩
  refine D.mono this (by simp [segN]) ?_
  rintro H acs _ ⟨_, _, rfl, hr, _, _, rfl, ⟨t, rfl, ht⟩, rfl⟩
  obtain ⟨A, c, l, rfl, hs, hk, hn, _⟩ := RowΦ_list (R := insR) hr
  exact ⟨⟨l, t⟩, ⟨A, c, rfl, hs⟩, Nat.le_trans hn (by decide), hk, ht⟩
def funcΦ (h : Hp) (acs : List Value) : Prop := ∃ x, funcR h acs x ∧ FuncS.ok x
theorem up_func : UpΦ funcΦ := fun _ _ _ hm ⟨x, hx, hk⟩ => ⟨x, funcR_mono hm hx, hk⟩
def nFunc : Nat := 1 + 1 + (reachBytes * (reachBytes * 1 + 1) + 1)
theorem D_func {cs : List Value} (h : TW enc Try.prog W 35 cs) : D G g0 W cs nFunc funcΦ := by
  obtain ⟨hl, hf⟩ := h.fields (l := [(9, 0, 1), (3, 1, 1), (31, 2, 1), (3, 3, 1), (32, 4, 1), (33, 5, 1)]) (n := 6) (by kernel_rfl) (by kernel_rfl)
  have := SegD.d (g0 := g0) (G := G) (off := 0) (cs := cs) (W := W) (l := [(1, 0, strΦ), (1, 0, intΦ), (1, reachBytes * 0 + 1, RowΦ 1 reachBytes boolΦ), (1, 0, intΦ), (1, reachBytes * 0 + 1, RowΦ 1 reachBytes intΦ), (1, reachBytes * (reachBytes * 1 + 1) + 1, RowΦ 9 reachBytes blockΦ)])
    ⟨up_str, D.string (by kernel_rfl) (hf (9, 0, 1) (by simp)), up_int, D_int (by kernel_rfl) (hf (3, 1, 1) (by simp)), RowΦ.up up_bool, D.row (e := 4) up_bool (by kernel_rfl) (by kernel_rfl) (by decide) (Nat.le_of_ble_eq_true (by kernel_rfl)) (fun c hc => D.bool (by kernel_rfl) hc) (hf (31, 2, 1) (by simp)), up_int, D_int (by kernel_rfl) (hf (3, 3, 1) (by simp)), RowΦ.up up_int, D.row (e := 3) up_int (by kernel_rfl) (by kernel_rfl) (by decide) (Nat.le_of_ble_eq_true (by kernel_rfl)) (fun c hc => D_int (by kernel_rfl) hc) (hf (32, 4, 1) (by simp)), RowΦ.up up_block, D.row (e := 47) up_block (by kernel_rfl) (by kernel_rfl) (by decide) (Nat.le_of_ble_eq_true (by kernel_rfl)) (fun c hc => D_block hc) (hf (33, 5, 1) (by simp)), hl⟩
  refine D.mono this (by simp [segN, nFunc]; omega) ?_
  rintro H acs _ ⟨_, _, rfl, ⟨nm, rfl, _⟩, _, _, rfl, ⟨pa, rfl, h1⟩, _, _, rfl, ⟨A1, c1, as1, rfl, _, hn1, _⟩, _, _, rfl, ⟨rg, rfl, h2⟩, _, _, rfl, hr2, _, _, rfl, hr3, rfl⟩
  obtain ⟨A2, c2, l2, rfl, hs2, hk2, hn2, _⟩ := RowΦ_list (R := fun _ => intR) (K := fitI) hr2
  obtain ⟨A3, c3, l3, rfl, hs3, hk3, hn3, _⟩ := RowΦ_list (R := blockR) hr3
  exact ⟨⟨nm, pa, as1.length, rg, l2, l3⟩, ⟨A1, c1, A2, c2, A3, c3, rfl, hs2, hs3⟩, h1, h2, Nat.le_trans hn1 (by decide), Nat.le_trans hn2 (by decide), hk2, Nat.le_trans hn3 (by decide), hk3⟩
def byteΦ (_ : Hp) (acs : List Value) : Prop := ∃ n, byteR acs n ∧ (0 ≤ n ∧ n ≤ 255)
theorem up_byte : UpΦ byteΦ := fun _ _ _ _ h => h
theorem D_byte {cs : List Value} (h : TW enc Try.prog W 5 cs) : D G g0 W cs 0 byteΦ := (D.int (k := .u8) (by kernel_rfl) h).mono (Nat.le_refl _) fun _ _ _ ⟨n, e, h1, h2⟩ => by
  have e1 : IntKind.u8.min = 0 := by decide
  have e2 : IntKind.u8.max = 255 := by decide
  rw [e1] at h1; rw [e2] at h2
  exact ⟨n, e, h1, h2⟩
def partΦ (h : Hp) (acs : List Value) : Prop := ∃ x, partR h acs x ∧ PartS.ok x
theorem up_part : UpΦ partΦ := fun _ _ _ hm ⟨x, hx, hk⟩ => ⟨x, partR_mono hm hx, hk⟩
theorem D_part {cs : List Value} (h : TW enc Try.prog W 83 cs) : D G g0 W cs 1 partΦ := by
  obtain ⟨hl, hf⟩ := h.fields (l := [(3, 0, 1), (28, 1, 1), (3, 2, 1)]) (n := 3) (by kernel_rfl) (by kernel_rfl)
  have := SegD.d (g0 := g0) (G := G) (off := 0) (cs := cs) (W := W) (l := [(1, 0, intΦ), (1, reachBytes * 0 + 1, RowΦ 1 reachBytes byteΦ), (1, 0, intΦ)])
    ⟨up_int, D_int (by kernel_rfl) (hf (3, 0, 1) (by simp)), RowΦ.up up_byte, D.row (e := 5) up_byte (by kernel_rfl) (by kernel_rfl) (by decide) (Nat.le_of_ble_eq_true (by kernel_rfl)) (fun c hc => D_byte hc) (hf (28, 1, 1) (by simp)), up_int, D_int (by kernel_rfl) (hf (3, 2, 1) (by simp)), hl⟩
  refine D.mono this (by simp [segN]) ?_
  rintro H acs _ ⟨_, _, rfl, ⟨k, rfl, h1⟩, _, _, rfl, hr, _, _, rfl, ⟨n, rfl, h2⟩, rfl⟩
  obtain ⟨A, c, l, rfl, hs, hk, hn, _⟩ := RowΦ_list (R := fun _ => byteR) hr
  exact ⟨⟨k, l, n⟩, ⟨A, c, rfl, hs⟩, h1, h2, Nat.le_trans hn (by decide), hk⟩
def globΦ (h : Hp) (acs : List Value) : Prop := ∃ x, globR h acs x ∧ GlobS.ok x
theorem up_glob : UpΦ globΦ := fun _ _ _ hm ⟨x, hx, hk⟩ => ⟨x, globR_mono hm hx, hk⟩
theorem D_glob {cs : List Value} (h : TW enc Try.prog W 81 cs) : D G g0 W cs (reachBytes * 1 + 1) globΦ := by
  obtain ⟨hl, hf⟩ := h.fields (l := [(9, 0, 1), (3, 1, 1), (3, 2, 1), (79, 3, 1)]) (n := 4) (by kernel_rfl) (by kernel_rfl)
  have := SegD.d (g0 := g0) (G := G) (off := 0) (cs := cs) (W := W) (l := [(1, 0, strΦ), (1, 0, intΦ), (1, 0, intΦ), (1, reachBytes * 1 + 1, RowΦ 3 reachBytes partΦ)])
    ⟨up_str, D.string (by kernel_rfl) (hf (9, 0, 1) (by simp)), up_int, D_int (by kernel_rfl) (hf (3, 1, 1) (by simp)), up_int, D_int (by kernel_rfl) (hf (3, 2, 1) (by simp)), RowΦ.up up_part, D.row (e := 83) up_part (by kernel_rfl) (by kernel_rfl) (by decide) (Nat.le_of_ble_eq_true (by kernel_rfl)) (fun c hc => D_part hc) (hf (79, 3, 1) (by simp)), hl⟩
  refine D.mono this (by simp [segN]) ?_
  rintro H acs _ ⟨_, _, rfl, ⟨nm, rfl, _⟩, _, _, rfl, ⟨pl, rfl, h1⟩, _, _, rfl, ⟨sz, rfl, h2⟩, _, _, rfl, hr, rfl⟩
  obtain ⟨A, c, l, rfl, hs, hk, hn, _⟩ := RowΦ_list (R := partR) hr
  exact ⟨⟨nm, pl, sz, l⟩, ⟨A, c, rfl, hs⟩, h1, h2, Nat.le_trans hn (by decide), hk⟩
def progΦ (h : Hp) (acs : List Value) : Prop := ∃ x, progR h acs x ∧ ProgS.ok x
theorem up_prog : UpΦ progΦ := fun _ _ _ hm ⟨x, hx, hk⟩ => ⟨x, progR_mono hm hx, hk⟩
def nProg : Nat := reachBytes * nFunc + 1 + (reachBytes * (reachBytes * 1 + 1) + 1)
theorem D_prog {cs : List Value} (h : TW enc Try.prog W 25 cs) : D G g0 W cs nProg progΦ := by
  obtain ⟨hl, hf⟩ := h.fields (l := [(22, 0, 1), (23, 1, 1), (3, 2, 1), (3, 3, 1)]) (n := 4) (by kernel_rfl) (by kernel_rfl)
  have := SegD.d (g0 := g0) (G := G) (off := 0) (cs := cs) (W := W) (l := [(1, reachBytes * nFunc + 1, RowΦ 6 reachBytes funcΦ), (1, reachBytes * (reachBytes * 1 + 1) + 1, RowΦ 4 reachBytes globΦ), (1, 0, intΦ), (1, 0, intΦ)])
    ⟨RowΦ.up up_func, D.row (e := 35) up_func (by kernel_rfl) (by kernel_rfl) (by decide) (Nat.le_of_ble_eq_true (by kernel_rfl)) (fun c hc => D_func hc) (hf (22, 0, 1) (by simp)), RowΦ.up up_glob, D.row (e := 81) up_glob (by kernel_rfl) (by kernel_rfl) (by decide) (Nat.le_of_ble_eq_true (by kernel_rfl)) (fun c hc => D_glob hc) (hf (23, 1, 1) (by simp)), up_int, D_int (by kernel_rfl) (hf (3, 2, 1) (by simp)), up_int, D_int (by kernel_rfl) (hf (3, 3, 1) (by simp)), hl⟩
  refine D.mono this (by simp [segN, nProg]) ?_
  rintro H acs _ ⟨_, _, rfl, hr1, _, _, rfl, hr2, _, _, rfl, ⟨d, rfl, h1⟩, _, _, rfl, ⟨m, rfl, h2⟩, rfl⟩
  obtain ⟨A1, c1, l1, rfl, hs1, hk1, hn1, _⟩ := RowΦ_list (R := funcR) hr1
  obtain ⟨A2, c2, l2, rfl, hs2, hk2, hn2, _⟩ := RowΦ_list (R := globR) hr2
  exact ⟨⟨l1, l2, d, m⟩, ⟨A1, c1, A2, c2, rfl, hs1, hs2⟩, Nat.le_trans hn1 (by decide), hk1, Nat.le_trans hn2 (by decide), hk2, h1, h2⟩
end Go.Proofs.Ytjhloakacicdiaa
namespace Go.Proofs.Ytjhloakacicdiaa
open Go.AH Go.ChangeShapes Go.WideShapes Go.ChangeAt Go.RowKit
variable {H : Type} {enc : TypeId × Value → H} {W : World} {G : Nat} {g0 : Nat → Option Blk}
def inpΦ (h : Hp) (acs : List Value) : Prop := ∃ A1 n1 c1 A2 n2 c2 pub sec, acs = [.slice A1 n1 c1, .slice A2 n2 c2] ∧ ((∀ a, A1 = some a → a.spot = none) → InRow h A1 n1 c1 pub) ∧ ((∀ a, A2 = some a → a.spot = none) → InRow h A2 n2 c2 sec)
theorem up_inp : UpΦ inpΦ := fun _ _ _ hm ⟨A1, n1, c1, A2, n2, c2, pub, sec, e, h1, h2⟩ => ⟨A1, n1, c1, A2, n2, c2, pub, sec, e, fun h => (h1 h).up hm, fun h => (h2 h).up hm⟩
theorem D_input {cs : List Value} (h : TW enc Try.prog W 30 cs) : D G g0 W cs 2 inpΦ := by
  obtain ⟨hl, hf⟩ := h.fields (l := [(28, 0, 1), (28, 1, 1)]) (n := 2) (by kernel_rfl) (by kernel_rfl)
  have := SegD.d (g0 := g0) (G := G) (off := 0) (cs := cs) (W := W) (l := [(1, reachBytes * 0 + 1, RowΦ 1 reachBytes byteΦ), (1, reachBytes * 0 + 1, RowΦ 1 reachBytes byteΦ)])
    ⟨RowΦ.up up_byte, D.row (e := 5) up_byte (by kernel_rfl) (by kernel_rfl) (by decide) (Nat.le_of_ble_eq_true (by kernel_rfl)) (fun c hc => D_byte hc) (hf (28, 0, 1) (by simp)), RowΦ.up up_byte, D.row (e := 5) up_byte (by kernel_rfl) (by kernel_rfl) (by decide) (Nat.le_of_ble_eq_true (by kernel_rfl)) (fun c hc => D_byte hc) (hf (28, 1, 1) (by simp)), hl⟩
  refine D.mono this (by simp [segN]) ?_
  rintro H acs _ ⟨_, _, rfl, hr1, _, _, rfl, hr2, rfl⟩
  obtain ⟨A1, c1, l1, rfl, hs1, hk1, hn1, hc1, hm1, hz1⟩ := RowΦ_list (R := fun _ => byteR) hr1
  obtain ⟨A2, c2, l2, rfl, hs2, hk2, hn2, hc2, hm2, hz2⟩ := RowΦ_list (R := fun _ => byteR) hr2
  exact ⟨A1, l1.length, c1, A2, l2.length, c2, l1, l2, rfl, fun h => ⟨hs1, rfl, hc1, hm1, hz1, h⟩, fun h => ⟨hs2, rfl, hc2, hm2, hz2, h⟩⟩
theorem okWide_slot {P : Program} {r : Reach} {base : Nat} {t u : TypeId} {ts : List TypeId} {cs : Array Value} {a : Addr} {n c i : Nat} {e : TypeId} (hs : ∃ fs, P.underlying t = some (.struct fs)) (ht : P.cellTypes P.depth t = some ts) (h : Value.okWide P W r base t (.agg cs)) (hi : cs[i]? = some (.slice (some a) n c)) (hu : ts[i % ts.length]? = some u) (he : P.underlying u = some (.slice e)) : a.spot = none := by
  obtain ⟨fs, hs⟩ := hs
  simp only [Value.okWide, hs] at h
  obtain ⟨cs', h1, _, ts', h2, _, h3⟩ := h
  injection h1 with h1
  subst h1
  rw [ht] at h2
  injection h2 with h2
  subst h2
  obtain ⟨u', h4, h5⟩ := h3 i _ hi
  rw [hu] at h4
  injection h4 with h4
  subst h4
  simp only [Cell.okWide, Cell.ok, he] at h5
  exact h5.2.2.2.1
theorem trodAll_below {P : Program} (hl : laidOutB P = true) {W W' : World} (hb : Below W.heap.size W W') : ∀ {ts : List TypeId} {vs : List Value} {ds : List (DataW H)} {ps : List MemPlace}, (∀ t ∈ ts, P.readableRec t = true ∧ t < P.types.size) → (∀ x ∈ ps, x.block < W.heap.size) → DataW.TrodAll enc P W 0 (fun _ => true) true ts vs ds ps → DataW.TrodAll enc P W' 0 (fun b => decide (b < W.heap.size)) true ts vs ds ps := by
  intro ts
  induction ts with
  | nil =>
    intro vs ds ps _ _ h
    cases vs with
    | nil => cases ds with
      | nil => exact h
      | cons d ds => exact h.elim
    | cons v vs => exact h.elim
  | cons t ts ih =>
    intro vs ds ps ht hx h
    cases vs with
    | nil => exact h.elim
    | cons v vs =>
      cases ds with
      | nil => exact h.elim
      | cons d ds =>
        obtain ⟨p, q, h1, h2, rfl⟩ := h
        exact ⟨p, q, Below.trod hl (ht t (by simp)).1 (ht t (by simp)).2 h1 hb fun x hx' => hx x (by simp [hx']), ih (fun t ht' => ht t (by simp [ht'])) (fun x hx' => hx x (by simp [hx'])) h2, rfl⟩
theorem Try.own : ownKnob Try.prog.godebug = none := by kernel_rfl
theorem Try.laidOut : laidOutB Try.prog = true := by kernel_rfl
theorem handed_weighed {a : Assume} {C : Checked} {os : Os} {f : FuncId} {fn : Func} {s : ChangeSpec} {conds : List PathCond} {apart fresh handsOn again : Bool}
    (own : ownKnob C.prog.godebug = none) (started : os.Started) (noInit : C.prog.inits.idxOf? f = none) (hfn : C.prog.funcs[f]? = some fn)
    (witness : ∃ (w : World) (tape : Tape) (i : Input), w.os = os ∧ (w.forCall tape i).Shaped C.prog ∧ i.vars = [] ∧ Input.okWide C.prog (w.forCall tape i) .any w.heap.size f i ∧
      s.pre6 enc C.prog fn conds apart (w.forCall tape i).memory i.args ∧ a.holds C.prog (lone (Frame.enter C.prog f i.args .normal) [] (w.forCall tape i)))
    (contract : ∀ (W : World) (base : Nat) (args : Array Value) (ds gs : List (DataW H)) (before : List MemPlace),
      (∀ (j : Nat) t v, fn.params[j]? = some t → args[j]? = some v → Value.okWide C.prog W .any base t v) →
      DataW.Whole enc C.prog fn.params.toList s.vars apart W args.toList ds gs before →
      (DataW.weightsEach C.prog (fn.params.toList ++ s.plain.varTypes C.prog) (ds ++ gs)).all (· ≤ reachBytes) = true →
      Calls C.prog f args W fun e W' => ∃ v, e = .returned v ∧ s.post enc C.prog fn apart fresh handsOn again W args v W') :
    ReturnsInHanded a C os f .any (s.pre6 enc C.prog fn conds apart) (s.post enc C.prog fn apart fresh handsOn again) := by
  refine returnsInHanded_of_calls own started noInit witness ?_
  intro w tape i _ _ _ hok hpre _
  obtain ⟨_, _, _, fn', hfn', _, _, _, _, hval⟩ := hok
  have e : fn' = fn := Option.some.inj (hfn'.symm.trans hfn)
  subst e
  obtain ⟨⟨ds, gs, before, hw, _⟩, hz⟩ := hpre
  have hw' := DataW.Whole.of_heap (w' := w.forCall tape i) (by rfl) hw
  refine (contract (w.forCall tape i) w.heap.size i.args ds gs before hval hw' (hz.weights hw)).mono fun e W' ⟨v, he, hp⟩ => ?_
  subst he
  exact ChangeSpec.post_blind hp
theorem TW.of {P : Program} {W : World} {t : TypeId} {v : Value} {d : DataW H} {p : List MemPlace} (h : DataW.Trod enc P W 0 (fun _ => true) true t v d p) (hw : okW (d.weights P t)) : TW enc P W t v.cells.toList := by
  obtain ⟨fuel, h⟩ := h
  exact ⟨fuel, (d, p), h, hw⟩
theorem shutB {P : Program} {W : World} {base : Nat} {sp : Nat → Bool} {held : Bool} {t : TypeId} {b : Bool} (ht : P.underlying t = some .bool) : DataW.Trod enc P W base sp held t (.bool b) (.lit (.bool b)) [] := ⟨1, by simp [DataW.trod, Value.cells, ht]⟩
set_option maxRecDepth 100000 in
theorem rtlrunFuel_lifted (os : Os) (started : os.Started) (H : Type) (enc : TypeId × Value → H) :
    ReturnsInHanded {} Try.checked os 4 .any (Rows.rtlrunFuelSpec.pre6 enc Try.prog Try.f4 Rows.rtlrunFuelRow.domain false) (Rows.rtlrunFuelSpec.post enc Try.prog Try.f4 false true false false) := by
  refine handed_weighed (C := Try.checked) Try.own started (by kernel_rfl) Try.func4
    (ChangeSpec.witness6 (enc := enc) (C := Try.checked) false ⟨#[], #[.agg #[.slice none 0 0, .slice none 0 0, .int .i64 0, .int .i64 0], .agg #[.slice none 0 0, .slice none 0 0], .int .i64 0], []⟩ 8 (by kernel_rfl) (by kernel_rfl) (by kernel_rfl) (by kernel_rfl)) ?_
  intro W base args ds gs before hval0 hW hwt0
  have hval : ∀ (j : Nat) t v, Try.f4.params[j]? = some t → args[j]? = some v → Value.okWide Try.prog W .any base t v := hval0
  have hwt : (DataW.weightsEach Try.prog (Try.f4.params.toList ++ Rows.rtlrunFuelSpec.plain.varTypes Try.prog) (ds ++ gs)).all (· ≤ reachBytes) = true := hwt0
  have hW' : DataW.Whole enc Try.prog Try.f4.params.toList Rows.rtlrunFuelSpec.vars false W args.toList ds gs before := hW
  obtain ⟨p, q, hA0, hV, hbe, hfz, hnd⟩ := hW
  have hA : DataW.TrodAll enc Try.prog W 0 (fun _ => true) true Try.f4.params.toList args.toList ds p := hA0
  have hpar : Try.f4.params = #[25, 30, 3] := by kernel_rfl
  have hA1 := hA
  rw [hpar] at hA1 hval hwt
  obtain ⟨v0, v1, v2, d0, d1, d2, p0, p1, p2, rfl, rfl, rfl, h0, h1, h2⟩ := trodAll_three hA1
  obtain ⟨rfl, rfl⟩ := trodVars_none hV
  have hw3 : (DataW.weightsEach Try.prog [25, 30, 3] [d0, d1, d2]).all (fun x => decide (x ≤ reachBytes)) = true := hwt
  simp only [DataW.weightsEach, List.all_append, Bool.and_eq_true] at hw3
  have hk0 : okW (d0.weights Try.prog 25) := fun n hn => by simpa using List.all_eq_true.1 hw3.1 n hn
  have hk1 : okW (d1.weights Try.prog 30) := fun n hn => by simpa using List.all_eq_true.1 hw3.2.1 n hn
  obtain ⟨cs0, rfl, hz0⟩ := okWide_struct Try.underlying25 (hval 0 25 v0 rfl rfl)
  obtain ⟨cs1, rfl, hz1⟩ := okWide_struct Try.underlying30 (hval 1 30 v1 rfl rfl)
  obtain ⟨seed, rfl, _, _, _⟩ := open_int Try.underlying3 (hval 2 3 v2 rfl rfl) h2
  have t0 : TW enc Try.prog W 25 cs0.toList := TW.of h0 hk0
  have t1 : TW enc Try.prog W 30 cs1.toList := TW.of h1 hk1
  obtain ⟨ws, acs, hlay, hlen, hmap, hbd, a0, a1, rfl, ⟨pr, hpr, hok⟩, A1, n1, c1, A2, n2, c2, pub, sec, hinp, hi1, hi2⟩ := D.append (G := Try.prog.globals.size) (g0 := fun _ => none) up_prog (D_prog t0) (D_input t1) [] ⟨fun i w b h => by simp at h, fun i w b h => by simp at h⟩
  rw [List.nil_append] at hlay hmap hbd hpr hi1 hi2
  obtain ⟨P1, e1, P2, e2, rfl, hfs, hgs⟩ := hpr
  subst hinp
  have hG : Try.prog.globals.size + ws.length ≤ rwM := Nat.le_trans (Nat.add_le_add_left hlen _) (Nat.le_of_ble_eq_true (by kernel_rfl))
  rw [List.map_append] at hmap
  have hz0' : cs0.toList.length = 4 := by rw [Array.length_toList, hz0]; kernel_rfl
  obtain ⟨m0, m1⟩ := List.append_inj hmap (by rw [List.length_map, hz0']; rfl)
  have ec0 : cs0 = ⟨(progC pr P1 e1 P2 e2).map (ren (envW Try.prog.globals.size ws))⟩ := by rw [m0]
  have ec1 : cs1 = ⟨[Value.slice A1 n1 c1, .slice A2 n2 c2].map (ren (envW Try.prog.globals.size ws))⟩ := by rw [m1]
  have hs1 : ∀ a, A1 = some a → a.spot = none := by
    rintro a rfl
    exact okWide_slot (cs := cs1) (i := 0) (a := renAddr (envW Try.prog.globals.size ws) a) (n := n1) (c := renCap (envW Try.prog.globals.size ws) a c1) ⟨_, Try.underlying30⟩ (ts := [28, 28]) (by kernel_rfl) (hval 1 30 _ rfl rfl) (by rw [ec1]; simp) rfl (by kernel_rfl : Try.prog.underlying 28 = some (.slice 5))
  have hs2 : ∀ a, A2 = some a → a.spot = none := by
    rintro a rfl
    exact okWide_slot (cs := cs1) (i := 1) (a := renAddr (envW Try.prog.globals.size ws) a) (n := n2) (c := renCap (envW Try.prog.globals.size ws) a c2) ⟨_, Try.underlying30⟩ (ts := [28, 28]) (by kernel_rfl) (hval 1 30 _ rfl rfl) (by rw [ec1]; simp) rfl (by kernel_rfl : Try.prog.underlying 28 = some (.slice 5))
  have hN : (hpW Try.prog.globals.size (fun _ => none) ws).n = rwM := hpW_n _ _ _
  have hb0 : ∀ v ∈ progC pr P1 e1 P2 e2, bnd (hpW Try.prog.globals.size (fun _ => none) ws).n v := fun v hv => by rw [hN]; exact bnd_mono hG v (hbd v (List.mem_append_left _ hv))
  have hb1 : ∀ v ∈ [Value.slice A1 n1 c1, Value.slice A2 n2 c2], bnd (hpW Try.prog.globals.size (fun _ => none) ws).n v := fun v hv => by rw [hN]; exact bnd_mono hG v (hbd v (List.mem_append_right _ hv))
  have ht := RtlrunFuel_tf (hpW Try.prog.globals.size (fun _ => none) ws) pr hok P1 e1 P2 e2 hfs hgs A1 n1 c1 A2 n2 c2 pub sec (hi1 hs1) (hi2 hs2) seed 2000 (hb1 _ (by simp)) (hb1 _ (by simp)) (fun f h1 h2 => fuel_law pr 2000 pub sec f h1 h2) (Nat.le_refl _)
  have hh := TF.below ht (fun i b h => h) (by
    intro x hx
    have hx : x ∈ [Value.agg ⟨progC pr P1 e1 P2 e2⟩, .agg ⟨[.slice A1 n1 c1, .slice A2 n2 c2]⟩, .int .i64 seed] := by simpa using hx
    simp only [List.mem_cons, List.not_mem_nil, or_false] at hx
    rcases hx with rfl | rfl | rfl
    · rw [bnd_agg]; exact fun v hv => hb0 v (by simpa using hv)
    · rw [bnd_agg]; exact fun v hv => hb1 v (by simpa using hv)
    · simp) (Lay.hok hlay hG (fun i b _ h => by cases h))
  have hargs : (⟨[.agg ⟨progC pr P1 e1 P2 e2⟩, .agg ⟨[.slice A1 n1 c1, .slice A2 n2 c2]⟩, .int .i64 seed]⟩ : Array Value).map (ren (envW Try.prog.globals.size ws)) = #[.agg cs0, .agg cs1, .int .i64 seed] := by
    rw [ec0, ec1]
    simp only [List.map_toArray, List.map_cons, List.map_nil, ren_agg, ren_int]
  rw [hargs] at hh
  refine hh.mono fun e W' ⟨⟨ρ', he⟩, hb⟩ => ?_
  have hres : DataW.TrodAll enc Try.prog W' W.heap.size (fun _ => false) false [4] [.bool true] [.lit (.bool true)] [] := trodAll_mk1 (shutB (by kernel_rfl))
  refine ⟨.bool true, by simpa using he, [d0, d1, d2], [], before, [], p0 ++ p1 ++ p2, [], hW', hres, ?_, rfl, Below.frame hb _, fun h => by cases h⟩
  refine trodAll_below Try.laidOut hb (ts := Try.f4.params.toList) (fun t ht => ?_) (fun x hx => hW'.lt x (by rw [hbe, List.append_nil]; exact hx)) hA
  rw [hpar] at ht
  have ht : t = 25 ∨ t = 30 ∨ t = 3 := by simpa using ht
  rcases ht with rfl | rfl | rfl <;> exact ⟨by kernel_rfl, of_decide_eq_true (by kernel_rfl)⟩
theorem rtlrunFuel_holds : Rows.RtlrunFuelSaid :=
  OpenClaim.holds_of_wide 4 Try.f4 rfl rfl rfl rfl rfl rfl rfl ⟨rfl, rfl, rfl, rfl, rfl⟩ rfl rfl rfl rfl rfl (by kernel_rfl) Try.func4 (by kernel_rfl)
    (of_decide_eq_true (by kernel_rfl)) (by unfold Func.isWrapper; rw [if_neg (by decide +kernel)]; exact ⟨rfl, rfl⟩)
    (fun os started H enc _ => rtlrunFuel_lifted os started H enc)
end Go.Proofs.Ytjhloakacicdiaa
