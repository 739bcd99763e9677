/-
  What the functions that the law reaches compute,told by plain data;it holds of programs that pass the check of right form and are light.
-/
import Derived.Test.YtgpigfcagppohaaGreatDoorR36
import Derived.Test.YtgpigfcagppohaaGreatDoorR38
set_option linter.unusedVariables false
set_option linter.unusedSimpArgs false
namespace Go.Proofs.YtgpigfcagppohaaGreatDoor
def kA:List TokS:=[wrd bInt,nam bX,sgn 59,wrd bInt,nam bMain,sgn 40,sgn 41,sgn 123,wrd bInt,nam bY,sgn 61,nam bX,sgn 59]
def kB:List TokS:=[sgn 123,wrd bInt,nam bY,sgn 61,nam bY,sgn 43,num (b1 49) 1,sgn 59]
def kC:List TokS:=[wrd bInt,nam bY,sgn 61,num (b1 50) 2,sgn 59]
def kD:List TokS:=[nam bOut,sgn 40,nam bY,sgn 41,sgn 59]
def kE:List TokS:=[sgn 125]
def kT (z:Bool):List TokS:=if z then [wrd bReturn,nam bZ,sgn 59,sgn 125] else [wrd bReturn,nam bY,sgn 59,sgn 125]
def ifC (w i:Nat):List TokS:=if i=w then kC else []
def kR (w:Nat):Nat→List TokS
 | 0=>kA
 | i+1=>kR w i++(kB++ifC w i)
def kS (d w:Nat) (z:Bool):List TokS:=kR w d++(kD++((List.replicate d kE).flatten++kT z))
section
variable {T:Nat→TokS} {w d:Nat}
theorem binX_of {t:TokS} {q:TokS} {e r:ExprS} (h:nk t=q):binX t e r=if eqB q.text (b2 124 124) then .mk 14 t.pos ⟨#[]⟩ zeroTok zeroType [e,r] else if eqB q.text (b2 38 38) then .mk 13 t.pos ⟨#[]⟩ zeroTok zeroType [e,r] else .mk 12 t.pos q.text zeroTok zeroType [e,r]:=by
 subst h;rfl
theorem go_cons {N n:Nat} {s:StmtS} {l:List StmtS} {out:List BodyS} {st st':CS} {b:BodyS} (h0:st.fk=0) (h:stmtM N n s st=some (b,st')):stmtM.go N n (s::l) out st=stmtM.go N n l (out++[b]) st':=by
 rw [stmtM.go,if_neg (fun x=>x h0)]
 simp only [Option.bind_eq_bind,h,Option.bind_some]
theorem go_stop {N n:Nat} {l:List StmtS} {out:List BodyS} {st:CS} (h0:st.fk≠0):stmtM.go N n l out st=some (out,st):=by
 cases l with
 | nil=>rw [stmtM.go]
 | cons s l=>rw [stmtM.go,if_pos h0]
def GoX (N n:Nat) (l:List StmtS) (out:List BodyS) (st st':CS):Prop:=∃ r,stmtM.go N n l out st=some (r,st')
theorem GoX.cons {N n:Nat} {s:StmtS} {l:List StmtS} {out:List BodyS} {st st' st'':CS} {b:BodyS} (h0:st.fk=0) (h:stmtM N n s st=some (b,st')) (hr:GoX N n l (out++[b]) st' st''):GoX N n (s::l) out st st'':=by
 obtain ⟨r,hr⟩:=hr
 exact ⟨r,(go_cons h0 h).trans hr⟩
theorem GoX.stop {N n:Nat} {l:List StmtS} {out:List BodyS} {st:CS} (h0:st.fk≠0):GoX N n l out st st:=⟨_,go_stop h0⟩
theorem GoX.nil {N n:Nat} {out:List BodyS} {st:CS}:GoX N n [] out st st:=⟨out,by rw [stmtM.go]⟩
theorem block_of {N n p:Nat} {kids:List StmtS} {st st':CS} (hd:st.depth < 900) (hl:kids.length≤900) (h:GoX N n kids [] { st with depth:=st.depth+1 } st'):∃ b,stmtM N (n+1) (.mk 3 p zeroDecl none kids) st=some (b,leaveS st'):=by
 obtain ⟨l,h⟩:=h
 rw [stmtM,if_neg (by decide),if_neg (by decide),if_pos rfl,if_neg (by omega)]
 simp only [Option.bind_eq_bind,h,Option.bind_some]
 exact ⟨_,rfl⟩
theorem let_stm {N n p:Nat} {d:DeclS} {x:ExprS} {st:CS}:stmtM N (n+1) (.mk 2 p d (some x) []) st=letM N p d (some x) st:=by
 rw [stmtM,if_neg (by decide),if_pos rfl]
end
end Go.Proofs.YtgpigfcagppohaaGreatDoor
