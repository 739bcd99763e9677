/-
  What the functions that the law reaches compute,told by plain data;it holds of programs that pass the check of right form and are light.
-/
import Derived.Test.YtjhloakacicdiaaDoorR6
import Derived.Test.YtjhloakacicdiaaDoorS2
set_option linter.unusedVariables false
set_option linter.unusedSimpArgs false
namespace Go.Proofs.YtjhloakacicdiaaDoor
open Go.AH
attribute [local irreducible] W RS
structure LiveAt (h:Hp) (ib ob:Nat) (ai ao:List Nat) (L:Nat) (ins outs:List SetS) (B:Hp):Prop where
 old:Old h B
 i:SetsAt B h.n ib ai ins L
 o:SetsAt B h.n ob ao outs L
end Go.Proofs.YtjhloakacicdiaaDoor
namespace Go.AH
variable {P:Program}
section
variable {ops:Array Oper} {draw:Bool} {rs:List Rk} {l:List Oper} {fl:List (Nat × Value)} {nt:Nat} {h:SH} {K:Fr→SH→Prop} {d:Tmp} {ty:TypeId} {pos:String} {af:Array Edge} {gd:Option (Nat × Bool)}
end
end Go.AH
namespace Go.Proofs.YtjhloakacicdiaaDoor
open Go.AH
attribute [local irreducible] W RS
def swapL {α:Type} (l:List α) (i j:Nat):List α:=match l[i]?,l[j]? with
 | some a,some b=>(l.set i b).set j a
 | _,_=>l
def revK {α:Type} (l:List α):Nat→List α
 | 0=>l
 | k+1=>swapL (revK l k) k (l.length - 1 - k)
structure OnI (h:Hp) (bb:Nat) (bv:List BV) (fb:Nat) (f:FuncS) (A1:Option Addr) (c1:Nat) (A2:Option Addr) (c2 c3 rb ob:Nat) (ao:List Nat) (L N:Nat) (outs:List SetS) (i:Nat) (bw:List BV) (B:Hp):Prop where
 own:OwnB B bb bw
 fm:B.m fb=some ⟨⟨funcC f A1 c1 A2 c2 (some ⟨bb,0,none⟩) c3⟩,37⟩
 rm:B.m rb=some ⟨⟨cellsV (.agg ⟨funcC ⟨⟨#[]⟩,0,0,0,[],[]⟩ none 0 none 0 none 0⟩)⟩,37⟩
 off:OffS (fun j=>j=bb) h B
 so:SetsAt B N ob ao outs L
 len:bw.length=bv.length
 rest:∀ j,i≤j→bw[j]?=bv[j]?
 new:∀ b∈bw.take i,b.ins≠[]→h.n≤b.r
 pl:(sL bw).take i=(onceL (sL bv) outs).take i
 sub:∀ b'∈bw,∀ x∈b'.ins,∃ b∈bv,x∈b.ins
end Go.Proofs.YtjhloakacicdiaaDoor
