/-
  What the functions that the law reaches compute,told by plain data;it holds of programs that pass the check of right form and are light.
-/
import Derived.Test.YtgpigfcagppohaaGreatDoorR2
set_option linter.unusedVariables false
set_option linter.unusedSimpArgs false
namespace Go.Proofs.YtgpigfcagppohaaGreatDoor
structure LfS where
 size:Nat
 sg:Bool
 sec:Bool
inductive TyS where
 | void
 | int (l:LfS)
 | ptr (l:LfS)
 | arr (l:LfS) (n:Nat)
inductive NodeS where
 | mk (op pos:Nat) (ty:TyS) (hid:Bool) (text:ByteArray) (num:Int) (ref:Nat) (kids:List NodeS)
def NodeS.op:NodeS→Nat
 | .mk o _ _ _ _ _ _ _=>o
def NodeS.pos:NodeS→Nat
 | .mk _ p _ _ _ _ _ _=>p
def NodeS.ty:NodeS→TyS
 | .mk _ _ t _ _ _ _ _=>t
def NodeS.hid:NodeS→Bool
 | .mk _ _ _ h _ _ _ _=>h
inductive BodyS where
 | mk (kind pos loc:Nat) (e:Option NodeS) (kids:List BodyS)
structure GlS where
 name:ByteArray
 ty:TyS
 pos:Nat
structure CS where
 fk:Nat
 fa:Nat
 gl:List GlS
 data:Nat
 ret:LfS
 lc:List TyS
 nm:List (ByteArray × Nat × Nat)
 depth:Nat
def CS.fail (st:CS) (k p:Nat):CS:=if st.fk=0 then { st with fk:=k,fa:=p } else st
def eS:ByteArray:=⟨#[]⟩
def bOut:ByteArray:=⟨#[111,117,116]⟩
def bMain:ByteArray:=⟨#[109,97,105,110]⟩
def promoteS (l:LfS):LfS:=if l.size < 4 then ⟨4,true,l.sec⟩ else l
def commonR (x y:LfS):LfS:=if x.size < y.size∨(y.size=x.size∧y.sg=false) then y else x
def commonS (a b:LfS):LfS:={ commonR (promoteS a) (promoteS b) with sec:=a.sec || b.sec }
def sameL (a b:LfS):Bool:=a.size == b.size && a.sg == b.sg && a.sec == b.sec
def i4 (sec:Bool):LfS:=⟨4,true,sec⟩
def i8 (sg:Bool):LfS:=⟨8,sg,false⟩
def convS (e:NodeS) (l:LfS):Option NodeS:=match e.ty with
 | .int le=>some (if sameL ⟨l.size,l.sg,l.sec || le.sec⟩ le then e else .mk 9 e.pos (.int ⟨l.size,l.sg,l.sec || le.sec⟩) false eS 0 0 [e])
 | _=>none
def becomeS (t:TyS) (e:NodeS) (p:Nat) (st:CS):Option (NodeS × CS):=match t,e.ty with
 | .int l,.int le=>if le.sec=true∧l.sec=false then some (e,st.fail 15 p) else (convS e l).map fun v=>(v,st)
 | _,_=>none
def placeS (e:NodeS):Bool:=e.op == 2 || e.op == 3 || e.op == 5 || e.op == 6
def loadedS (p:NodeS):Option NodeS:=match p.ty with
 | .arr l _=>if p.op=6∨p.op=3 then none else some (.mk 8 p.pos (.ptr l) p.hid eS 0 0 [p])
 | .int l=>some (.mk 7 p.pos (.int ⟨l.size,l.sg,l.sec || p.hid⟩) false eS 0 0 [p])
 | _=>none
def assignS (p e:NodeS) (q:Nat) (st:CS):Option (NodeS × CS):=if p.hid then none else do
 let (v,st) ← becomeS p.ty e q st
 some (.mk 18 q p.ty false eS 0 0 [p,v],st)
def derefS (e:NodeS) (p:Nat):Option NodeS:=match e.ty with
 | .ptr l=>if l.size=0 then none else some (.mk 5 p (.int l) e.hid eS 0 0 [e])
 | _=>none
def others:List ByteArray:=[b2 62 62,b2 33 61,b1 60,b1 62,b2 60 61,b2 62 61]
def intsS (a b:NodeS) (op:ByteArray) (p:Nat):Option NodeS:=match a.ty,b.ty with
 | .int la,.int lb =>
  if others.any (fun s=>eqB op s) then none
  else if eqB op (b2 60 60) then do
   let x ← convS a { promoteS la with sec:=la.sec || lb.sec }
   let y ← convS b (i8 false)
   some (.mk 10 p (.int { promoteS la with sec:=la.sec || lb.sec }) false op 0 0 [x,y])
  else if eqB op (b2 61 61) then do
   let x ← convS a (commonS la lb)
   let y ← convS b (commonS la lb)
   some (.mk 11 p (.int (i4 (la.sec || lb.sec))) false op 0 0 [x,y])
  else do
   let x ← convS a (commonS la lb)
   let y ← convS b (commonS la lb)
   some (.mk 10 p (.int (commonS la lb)) false op 0 0 [x,y])
 | _,_=>none
def addS (a b:NodeS) (op:ByteArray) (p:Nat):Option NodeS:=match a.ty,b.ty with
 | .ptr l,.int lb=>if l.size=0∨eqB op (b1 43)=false then none else do
  let y ← convS b (i8 true)
  some (.mk 13 p (.ptr l) (a.hid || lb.sec) eS l.size 0 [a,y])
 | .int _,.int _=>intsS a b op p
 | _,_=>none
def binS (a b:NodeS) (s:ByteArray) (p:Nat):Option NodeS:=if eqB s (b1 43) || eqB s (b1 45) then addS a b s p else intsS a b s p
def sizeS:TyS→Option Nat
 | .int l=>if l.size=0 then none else some l.size
 | .ptr _=>some 8
 | .arr l n=>if l.size=0∨8 < l.size∨n=0∨4096 < n then none else some (n * l.size)
 | .void=>none
def upS8 (n:Nat):Nat:=(n+7) / 8 * 8
def specTy (s:SpecS):Option LfS :=
 if eqB s.word bChar then some ⟨1,!s.uns,s.secret⟩ else if eqB s.word bShort then some ⟨2,!s.uns,s.secret⟩ else if eqB s.word bInt then some ⟨4,!s.uns,s.secret⟩ else if eqB s.word bLong then some ⟨8,!s.uns,s.secret⟩ else none
def typS (t:TypeS):Option TyS:=if t.stars≠0 then none else do
 let l ← specTy t.spec
 match t.dims with
 | []=>some (.int l)
 | [n]=>some (.arr l n)
 | _=>none
def findL (s:ByteArray):List (ByteArray × Nat × Nat)→Option Nat
 | []=>none
 | x::l=>if eqB x.1 s then some x.2.1 else findL s l
def findG (s:ByteArray):Nat→List GlS→Option (Nat × TyS)
 | _,[]=>none
 | i,x::l=>if eqB x.name s then some (i,x.ty) else findG s (i+1) l
def varS (s:ByteArray) (p:Nat) (st:CS):Option (NodeS × CS):=match findL s st.nm.reverse with
 | some i=>(st.lc[i]?).map fun t=>(.mk 3 p t false eS 0 i [],st)
 | none=>match findG s 0 st.gl with
  | some (i,t)=>some (.mk 2 p t false eS 0 i [],st)
  | none=>if eqB bMain s then none else some (.mk 0 p .void false eS 0 0 [],st.fail 12 p)
def zeroN (p:Nat):NodeS:=.mk 0 p .void false eS 0 0 []
section
variable (R:ExprS→CS→Option (NodeS × CS))
def exprM (x:ExprS) (st:CS):Option (NodeS × CS):=do
 let (e,st) ← R x st
 if st.fk≠0∨placeS e=false then some (e,st) else (loadedS e).map fun v=>(v,st)
def okM (x:ExprS) (st:CS):Option (NodeS × CS):=do
 let (e,st) ← exprM R x st
 if st.fk≠0 then none else some (e,st)
def intM (x:ExprS) (st:CS):Option (NodeS × LfS × CS):=do
 let (e,st) ← okM R x st
 match e.ty with
 | .int l=>some (e,l,st)
 | _=>none
def ExprS.pos:ExprS→Nat
 | .mk _ p _ _ _ _=>p
def truthM (x:ExprS) (no:ByteArray) (st:CS):Option (NodeS × Bool × CS):=do
 let (e,st) ← okM R x st
 match e.ty with
 | .int l=>some (.mk 25 x.pos (.int (i4 (l.sec || e.hid))) false no 0 0 [e],l.sec || e.hid,st)
 | _=>none
def outM (p:Nat) (a:ExprS) (st:CS):Option (NodeS × CS):=do
 let (e,l,st) ← intM R a st
 if l.sec then some (.mk 23 p .void false eS 0 0 [],st.fail 15 a.pos) else do
  let v ← convS e (i8 true)
  some (.mk 23 p .void false eS 0 0 [v],st)
def callM (p:Nat) (kids:List ExprS) (st:CS):Option (NodeS × CS):=match kids with
 | [.mk op _ s _ _ _,a]=>if op≠2∨eqB s bOut=false∨(st.nm.any fun x=>eqB x.1 bOut)=true then none else outM R p a st
 | _=>none
def indexM (p:Nat) (kids:List ExprS) (st:CS):Option (NodeS × CS):=match kids with
 | [x,y]=>do
  let (a,st) ← okM R x st
  let (b,st) ← okM R y st
  let c ← addS a b (b1 43) p
  let d ← derefS c p
  some (d,st)
 | _=>none
def unaryM (p:Nat) (s:ByteArray) (kids:List ExprS) (st:CS):Option (NodeS × CS):=match kids with
 | [x] =>
  if eqB s (b1 42) then do
   let (e,st) ← okM R x st
   let d ← derefS e p
   some (d,st)
  else if eqB s (b1 38) then none
  else if eqB s (b1 33) then do
   let (e,_,st) ← truthM R x (b1 33) st
   some (e,st)
  else if eqB s (b1 126) then none
  else do
   let (e,l,st) ← intM R x st
   let v ← convS e (promoteS l)
   let z ← convS (.mk 1 p (.int { promoteS l with sec:=false }) false eS 0 0 []) (promoteS l)
   some (.mk 10 p (.int (promoteS l)) false (b1 45) 0 0 [z,v],st)
 | _=>none
def castM (p:Nat) (ty:TypeS) (kids:List ExprS) (st:CS):Option (NodeS × CS):=match kids with
 | [x]=>match typS ty with
  | some (.int l)=>do
   let (e,le,st) ← intM R x st
   some (.mk 9 p (.int ⟨l.size,l.sg,l.sec || le.sec⟩) false eS 0 0 [e],st)
  | _=>none
 | _=>none
def logicM (op p:Nat) (kids:List ExprS) (st:CS):Option (NodeS × CS):=match kids with
 | [x,y]=>do
  let (a,s,st) ← truthM R x eS st
  let (b,t,st) ← truthM R y eS st
  some (.mk (op+2) p (.int (i4 (s || t))) false eS 0 0 [a,b],st)
 | _=>none
def condM (p:Nat) (kids:List ExprS) (st:CS):Option (NodeS × CS):=match kids with
 | [x,y,z]=>do
  let (q,s,st) ← truthM R x eS st
  let (a,la,st) ← intM R y st
  let (b,lb,st) ← intM R z st
  let t:LfS:={ commonS la lb with sec:=(la.sec || lb.sec) || s }
  let v ← convS a t
  let w ← convS b t
  some (.mk 17 p (.int t) false eS 0 0 [q,v,w],st)
 | _=>none
def binaryM (p:Nat) (s:ByteArray) (kids:List ExprS) (st:CS):Option (NodeS × CS):=match kids with
 | [x,y]=>do
  let (a,st) ← okM R x st
  let (b,st) ← okM R y st
  let c ← binS a b s p
  some (c,st)
 | _=>none
def becomesM (p:Nat) (s:ByteArray) (kids:List ExprS) (st:CS):Option (NodeS × CS):=match kids with
 | [x,y]=>if eqB s eS=false then none else do
  let (a,st) ← R x st
  if st.fk≠0∨placeS a=false then none else do
  let (e,st) ← okM R y st
  assignS a e p st
 | _=>none
def rawB (x:ExprS) (st:CS):Option (NodeS × CS):=match x with
 | .mk op p s tok ty kids =>
  if op=1 then (if tok.uns=false∧tok.long=false∧tok.value < 2147483648 then some (.mk 1 p (.int (i4 false)) false eS tok.value 0 [],st) else none)
  else if op=2 then varS s p st
  else if op=3 then callM R p kids st
  else if op=4 then indexM R p kids st
  else if op=7 then unaryM R p s kids st
  else if op=11 then castM R p ty kids st
  else if op=12 then binaryM R p s kids st
  else if op=13 then logicM R 13 p kids st
  else if op=15 then condM R p kids st
  else if op=16 then becomesM R p s kids st
  else none
end
def rawM:Nat→ExprS→CS→Option (NodeS × CS)
 | 0=>fun _ _=>none
 | n+1=>rawB (rawM n)
def bytesS:List TyS→Option Nat
 | []=>some 0
 | t::l=>do
  let n ← sizeS t
  let m ← bytesS l
  some (upS8 n+m)
def localS (d:DeclS) (t:TyS) (st:CS):Option (Nat × CS):=do
 let st:=if st.nm.any (fun x=>eqB x.1 d.name && x.2.2 == st.depth) then st.fail 13 d.pos else st
 let n ← sizeS t
 if st.fk≠0 then some (0,st) else if 100≤st.lc.length∨100≤st.nm.length then none else do
  let m ← bytesS st.lc
  let u:=if 4096 < m+upS8 n then st.fail 5 d.pos else st
  some (st.lc.length,{ u with lc:=st.lc++[t],nm:=st.nm++[(d.name,st.lc.length,st.depth)] })
def leaveS (st:CS):CS:={ st with depth:=st.depth - 1,nm:=(st.nm.reverse.dropWhile (fun x=>decide (st.depth - 1 < x.2.2))).reverse }
def letM (N:Nat) (p:Nat) (d:DeclS) (x:Option ExprS) (st:CS):Option (BodyS × CS):=do
 let t ← typS d.ty
 match x with
 | none=>do
  let (i,st) ← localS d t st
  some (.mk 2 p i none [],st)
 | some x=>do
  let (e,st) ← exprM (rawM N) x st
  if st.fk≠0 then some (.mk 2 p 0 none [],st) else do
  let (i,st) ← localS d t st
  if st.fk≠0 then some (.mk 2 p i none [],st) else do
  let (v,st) ← assignS (.mk 3 d.pos t false eS 0 i []) e d.pos st
  some (.mk 2 p i (some v) [],st)
def stmtM (N:Nat):Nat→StmtS→CS→Option (BodyS × CS)
 | 0,_,_=>none
 | n+1,.mk kind p d x kids,st =>
  if kind=1 then (match x with
   | none=>none
   | some x=>do
    let (e,st) ← exprM (rawM N) x st
    some (.mk 1 p 0 (some e) [],st))
  else if kind=2 then letM N p d x st
  else if kind=3 then (if 1000≤st.depth∨1000 < kids.length then none else do
   let (l,st) ← go n kids [] { st with depth:=st.depth+1 }
   some (.mk 3 p 0 none l,leaveS st))
  else if kind=11 then (match x with
   | none=>none
   | some x=>do
    let (e,st) ← exprM (rawM N) x st
    if st.fk≠0 then some (.mk 11 p 0 none [],st) else do
    let (v,st) ← becomeS (.int st.ret) e p st
    some (.mk 11 p 0 (some v) [],st))
  else none
where
 go (n:Nat):List StmtS→List BodyS→CS→Option (List BodyS × CS)
 | [],out,st=>some (out,st)
 | s::l,out,st=>if st.fk≠0 then some (out,st) else do
  let (b,st) ← stmtM N n s st
  go n l (out++[b]) st
def globalsM:List DeclS→CS→Option CS
 | [],st=>some st
 | d::l,st =>
  if st.gl.any (fun g=>eqB g.name d.name) || eqB d.name bOut || decide (100≤st.gl.length) then none else do
  let t ← typS d.ty
  let n ← sizeS t
  if 32768 < upS8 st.data+n then some (st.fail 5 d.pos) else
   globalsM l { st with gl:=st.gl++[⟨d.name,t,upS8 st.data⟩],data:=upS8 st.data+n }
def startC:CS:=⟨0,0,[],0,⟨0,false,false⟩,[],[],0⟩
def checkU (u:UnitS):Option (Except (Nat × Nat) (CS × BodyS)):=do
 let st ← globalsM u.globals startC
 match u.funcs with
 | [f]=>if f.params≠[]∨eqB f.name bMain=false∨(u.globals.any fun d=>eqB d.name bMain) then none else do
  let t ← typS f.ret
  match t with
  | .int l=>if l.sec then none else
   if st.fk≠0 then some (.error (st.fk,st.fa)) else do
   let (b,st) ← stmtM 1000 1000 f.body { st with ret:=l }
   if st.fk≠0 then some (.error (st.fk,st.fa)) else some (.ok (st,b))
  | _=>none
 | _=>none
def checkT (l:List UInt8):Option (Except (Nat × Nat) (CS × BodyS)):=do
 match ← parseT l with
 | .error e=>some (.error e)
 | .ok u=>checkU u
def ckindT (l:List UInt8):Option Nat:=(checkT l).map fun r=>match r with
 | .error p=>p.1
 | .ok _=>0
end Go.Proofs.YtgpigfcagppohaaGreatDoor
