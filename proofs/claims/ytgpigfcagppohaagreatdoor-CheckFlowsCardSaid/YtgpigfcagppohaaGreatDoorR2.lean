/-
  What the functions that the law reaches compute,told by plain data;it holds of programs that pass the check of right form and are light.
-/
import Derived.Test.YtgpigfcagppohaaGreatDoorR1
set_option linter.unusedVariables false
set_option linter.unusedSimpArgs false
namespace Go.Proofs.YtgpigfcagppohaaGreatDoor
structure SpecS where
 secret:Bool
 word:ByteArray
 uns:Bool
 strct:ByteArray
 pos:Nat
structure TypeS where
 spec:SpecS
 stars:Nat
 dims:List Nat
structure DeclS where
 ty:TypeS
 name:ByteArray
 pos:Nat
def zeroSpec:SpecS:=⟨false,⟨#[]⟩,false,⟨#[]⟩,0⟩
def zeroType:TypeS:=⟨zeroSpec,0,[]⟩
def zeroDecl:DeclS:=⟨zeroType,⟨#[]⟩,0⟩
inductive ExprS where
 | mk (op pos:Nat) (text:ByteArray) (tok:TokS) (ty:TypeS) (kids:List ExprS)
def zeroExpr:ExprS:=.mk 0 0 ⟨#[]⟩ zeroTok zeroType []
inductive StmtS where
 | mk (kind pos:Nat) (decl:DeclS) (e:Option ExprS) (kids:List StmtS)
structure FuncDS where
 ret:TypeS
 name:ByteArray
 pos:Nat
 params:List DeclS
 body:StmtS
structure UnitS where
 globals:List DeclS
 funcs:List FuncDS
structure PS where
 at_:Nat
 deep:Nat
 nodes:Nat
 fk:Nat
 fa:Nat
section
variable (T:Nat→TokS)
def PS.tok (st:PS):TokS:=T st.at_
def PS.fail (st:PS) (k:Nat):PS:=if st.fk=0 then { st with fk:=k,fa:=(st.tok T).pos } else st
def PS.fail0 (st:PS) (k p:Nat):PS:=if st.fk=0 then { st with fk:=k,fa:=p } else st
def eqB (a b:ByteArray):Bool:=a.data.toList == b.data.toList
theorem eqB_iff {a b:ByteArray}:eqB a b=true↔a=b:=by
 unfold eqB
 rw [beq_iff_eq]
 constructor
 ·intro h;cases a with|mk x=>cases b with|mk y=>exact congrArg ByteArray.mk (Array.ext' h)
 ·intro h;rw [h]
def wordy (t:TokS) (s:ByteArray):Bool:=(t.kind == 4 || t.kind == 2) && eqB t.text s
def PS.is (st:PS) (s:ByteArray):Bool:=wordy (st.tok T) s
def PS.adv (st:PS):Option PS:=if st.at_ < 1000000 then some { st with at_:=st.at_+1 } else none
def PS.take (st:PS) (s:ByteArray):Option (Bool × PS):=if st.fk=0∧st.is T s=true then (st.adv).map fun t=>(true,t) else some (false,st)
def PS.want (st:PS) (s:ByteArray):Option PS:=(st.take T s).map fun r=>if r.1 then r.2 else r.2.fail T 11
def PS.name (st:PS):Option (ByteArray × PS):=if st.fk=0∧(st.tok T).kind=1 then (st.adv).map fun t=>((st.tok T).text,t) else some (⟨#[]⟩,st.fail T 11)
def PS.down (st:PS):Option PS:=if st.deep < 1000000 then some (if 60 < st.deep+1 then { st with deep:=st.deep+1 }.fail T 3 else { st with deep:=st.deep+1 }) else none
def PS.up (st:PS):Option PS:=if 0 < st.deep then some { st with deep:=st.deep - 1 } else none
def PS.node (st:PS):Option PS:=if st.nodes < 1000000 then some (if 6000 < st.nodes+1 then { st with nodes:=st.nodes+1 }.fail T 2 else { st with nodes:=st.nodes+1 }) else none
def exprS (st:PS) (op pos:Nat) (text:ByteArray) (kids:List ExprS):Option (ExprS × PS):=(st.node T).map fun t=>(.mk op pos text zeroTok zeroType kids,t)
end
def bChar:ByteArray:=⟨#[99,104,97,114]⟩
def bShort:ByteArray:=⟨#[115,104,111,114,116]⟩
def bInt:ByteArray:=⟨#[105,110,116]⟩
def bLong:ByteArray:=⟨#[108,111,110,103]⟩
def bUns:ByteArray:=⟨#[117,110,115,105,103,110,101,100]⟩
def bSig:ByteArray:=⟨#[115,105,103,110,101,100]⟩
def bVoid:ByteArray:=⟨#[118,111,105,100]⟩
def bStruct:ByteArray:=⟨#[115,116,114,117,99,116]⟩
def bSecret:ByteArray:=⟨#[115,101,99,114,101,116]⟩
def bPublic:ByteArray:=⟨#[112,117,98,108,105,99]⟩
def b1 (a:UInt8):ByteArray:=⟨#[a]⟩
def b2 (a b:UInt8):ByteArray:=⟨#[a,b]⟩
def typeWords:List ByteArray:=[bChar,bShort,bInt,bLong,bUns,bSig,bVoid,bStruct,bSecret,bPublic]
def typedT (t:TokS):Bool:=t.kind == 2 && typeWords.any (fun w=>eqB t.text w)
def levelS (s:ByteArray):Nat :=
 if eqB s (b2 124 124) then 1 else if eqB s (b2 38 38) then 2 else if eqB s (b1 124) then 3 else if eqB s (b1 94) then 4 else if eqB s (b1 38) then 5
 else if eqB s (b2 61 61) || eqB s (b2 33 61) then 6 else if eqB s (b1 60) || eqB s (b1 62) || eqB s (b2 60 61) || eqB s (b2 62 61) then 7
 else if eqB s (b2 60 60) || eqB s (b2 62 62) then 8 else if eqB s (b1 43) || eqB s (b1 45) then 9 else if eqB s (b1 42) || eqB s (b1 47) || eqB s (b1 37) then 10 else 0
def assigns:List ByteArray:=[b1 61,b2 43 61,b2 45 61,b2 42 61,b2 47 61,b2 37 61,b2 38 61,b2 124 61,b2 94 61,⟨#[60,60,61]⟩,⟨#[62,62,61]⟩]
section
variable (T:Nat→TokS)
def bSizeof:ByteArray:=⟨#[115,105,122,101,111,102]⟩
def specW (s:SpecS) (st:PS) (sg:Bool):List ByteArray→Option (SpecS × PS)
 | []=>some ({ s with word:=bInt },if s.uns || sg then st else st.fail T 11)
 | w::l=>do
  let (b,st) ← st.take T w
  if b then some ({ s with word:=w },st) else specW s st sg l
def specPub (st:PS) (sec:Bool):Option PS:=if sec then some st else (st.take T bPublic).map (·.2)
def specSig (st:PS) (u:Bool):Option (Bool × PS):=if u then some (false,st) else st.take T bSig
def specS (st:PS):Option (SpecS × PS):=do
 let p:=(st.tok T).pos
 let (sec,st) ← st.take T bSecret
 let st ← specPub T st sec
 let (b,st) ← st.take T bStruct
 if b then none else do
  let (v,st) ← st.take T bVoid
  if v then some (⟨sec,bVoid,false,⟨#[]⟩,p⟩,st) else do
   let (u,st) ← st.take T bUns
   let (g,st) ← specSig T st u
   specW T ⟨sec,⟨#[]⟩,u,⟨#[]⟩,p⟩ st g [bChar,bShort,bInt,bLong]
def starsS:Nat→PS→Nat→Option (Nat × PS)
 | 0,_,_=>none
 | n+1,st,k=>do
  let (b,st) ← st.take T (b1 42)
  if b then (if k < 1000000 then starsS n st (k+1) else none) else some (k,st)
def dimsS (st:PS):Option (List Nat × PS):=do
 let (b,st) ← st.take T (b1 91)
 if b then
  if (st.tok T).kind≠3 then none
  else if (st.tok T).value < 1∨4096 < (st.tok T).value then some ([],st.fail T 18)
  else do
   let u ← st.adv
   let u ← u.want T (b1 93)
   let (c,u) ← u.take T (b1 91)
   if c then none else some ([(st.tok T).value],u)
 else some ([],st)
def restS (n:Nat) (s:SpecS) (st:PS):Option (DeclS × PS):=do
 let (k,st) ← starsS T n st 0
 let (b,st) ← st.take T (b1 40)
 if b then none else do
  let p:=(st.tok T).pos
  let (x,st) ← st.name T
  let (d,st) ← dimsS T st
  some (⟨⟨s,k,d⟩,x,p⟩,st)
inductive Req where
 | full
 | choice
 | binary (k:Nat)
 | binL (k:Nat) (e:ExprS)
 | unary
 | primary
 | paren
 | post (e:ExprS)
def upE (r:Option (ExprS × PS)):Option (ExprS × PS):=do
 let (e,st) ← r
 let st ← st.up
 some (e,st)
def binE (t:TokS) (e r:ExprS) (st:PS):Option (ExprS × PS) :=
 if eqB t.text (b2 124 124) then exprS T st 14 t.pos ⟨#[]⟩ [e,r] else if eqB t.text (b2 38 38) then exprS T st 13 t.pos ⟨#[]⟩ [e,r] else exprS T st 12 t.pos t.text [e,r]
def signK (t:TokS):Nat:=if t.kind=4 then levelS t.text else 0
def unaries:List ByteArray:=[b1 45,b1 126,b1 33,b1 42,b1 38]
def sepS (st:PS):Option PS:=if st.is T (b1 41) then some st else (st.want T (b1 44)).map fun st=>if st.is T (b1 41) then st.fail T 11 else st
def ExprS.withTok (t:TokS):ExprS→ExprS
 | .mk op pos text _ ty kids=>.mk op pos text t ty kids
def ExprS.withTy (ty:TypeS):ExprS→ExprS
 | .mk op pos text t _ kids=>.mk op pos text t ty kids
def parseE:Nat→Req→PS→Option (ExprS × PS)
 | 0,_,_=>none
 | n+1,.full,st=>do
  let st ← st.down T
  if st.fk≠0 then upE (some (zeroExpr,st)) else upE (do
   let (e,st) ← parseE n .choice st
   let t:=st.tok T
   if st.fk≠0∨t.kind≠4 then some (e,st)
   else if assigns.any (fun a=>eqB t.text a) then (if eqB t.text (b1 61) then do
    let st ← st.adv
    let (r,st) ← parseE n .full st
    exprS T st 16 t.pos ⟨#[]⟩ [e,r] else none)
   else some (e,st))
 | n+1,.choice,st=>do
  let (e,st) ← parseE n (.binary 1) st
  let p:=(st.tok T).pos
  let (b,st) ← st.take T (b1 63)
  if b then do
   let (a,st) ← parseE n .full st
   let st ← st.want T (b1 58)
   let st ← st.down T
   if st.fk≠0 then none else upE (do
    let (c,st) ← parseE n .choice st
    exprS T st 15 p ⟨#[]⟩ [e,a,c])
  else some (e,st)
 | n+1,.binary k,st=>do
  let (e,st) ← parseE n .unary st
  parseE n (.binL k e) st
 | n+1,.binL k e,st =>
  if st.fk≠0 then some (e,st) else
   let t:=st.tok T
   if signK t < k∨signK t=0 then some (e,st) else do
    let st ← st.adv
    let (r,st) ← parseE n (.binary (signK t+1)) st
    let (e,st) ← binE T t e r st
    parseE n (.binL k e) st
 | n+1,.unary,st=>do
  let st ← st.down T
  if st.fk≠0 then upE (some (zeroExpr,st)) else upE (
   let t:=st.tok T
   if t.kind=4∧unaries.any (fun a=>eqB t.text a)=true then do
    let st ← st.adv
    let (e,st) ← parseE n .unary st
    exprS T st 7 t.pos t.text [e]
   else if t.kind=4∧(eqB t.text (b2 43 43) || eqB t.text (b2 45 45))=true then none
   else if t.kind=4∧eqB t.text (b1 40)=true∧typedT (T (st.at_+1))=true then do
    let st ← st.adv
    let (s,st) ← specS T st
    let (k,st) ← starsS T n st 0
    let st ← st.want T (b1 41)
    let (e,st) ← parseE n .unary st
    let (e,st) ← exprS T st 11 t.pos ⟨#[]⟩ [e]
    some (e.withTy ⟨s,k,[]⟩,st)
   else if t.kind=4∧eqB t.text (b1 40)=true∧¬ st.at_ < 1000000 then none
   else do
    let (b,st) ← st.take T bSizeof
    if b then none else do
     let (e,st) ← parseE n .primary st
     parseE n (.post e) st)
 | n+1,.primary,st =>
  let t:=st.tok T
  if t.kind=3 then do
   let st ← st.adv
   let (e,st) ← exprS T st 1 t.pos ⟨#[]⟩ []
   some (e.withTok t,st)
  else if t.kind=1 then do
   let st ← st.adv
   exprS T st 2 t.pos t.text []
  else if st.is T (b1 40) then parseE n .paren st
  else some (zeroExpr,st.fail T 11)
 | n+1,.paren,st=>do
  let st ← st.want T (b1 40)
  let (e,st) ← parseE n .full st
  let st ← st.want T (b1 41)
  some (e,st)
 | n+1,.post e,st =>
  if st.fk≠0 then some (e,st) else
   if st.is T (b1 91) then do
    let u ← st.adv
    let (i,u) ← parseE n .full u
    let u ← u.want T (b1 93)
    let (e,u) ← exprS T u 4 (st.tok T).pos ⟨#[]⟩ [e,i]
    parseE n (.post e) u
   else if st.is T (b1 46) || st.is T (b2 45 62) || st.is T (b2 43 43) || st.is T (b2 45 45) then none
   else if st.is T (b1 40) then do
    let u ← st.adv
    if u.is T (b1 41) then none else do
    let (a,u) ← parseE n .full u
    if u.fk≠0∨u.is T (b1 41)=false then none else do
    let u ← u.adv
    let (e,u) ← exprS T u 3 (st.tok T).pos ⟨#[]⟩ [e,a]
    parseE n (.post e) u
   else some (e,st)
inductive ReqS where
 | stmt
 | block (pos:Nat) (kids:List StmtS)
def upS (r:Option (StmtS × PS)):Option (StmtS × PS):=do
 let (e,st) ← r
 let st ← st.up
 some (e,st)
def noWords:List ByteArray:=[⟨#[105,102]⟩,⟨#[119,104,105,108,101]⟩,⟨#[100,111]⟩,⟨#[102,111,114]⟩,⟨#[115,119,105,116,99,104]⟩,⟨#[98,114,101,97,107]⟩,⟨#[99,111,110,116,105,110,117,101]⟩]
def bReturn:ByteArray:=⟨#[114,101,116,117,114,110]⟩
def simpleS (n p:Nat) (st:PS):Option (StmtS × PS) :=
 if typedT (st.tok T) then do
  let (s,u1) ← specS T st
  let (d,u2) ← restS T n s u1
  let (b,u3) ← u2.take T (b1 61)
  if b then do
   let (e,u4) ← parseE T n .full u3
   some (.mk 2 p d (some e) [],u4)
  else some (.mk 2 p d none [],u3)
 else do
  let (e,u1) ← parseE T n .full st
  some (.mk 1 p zeroDecl (some e) [],u1)
def retS (n p:Nat) (st:PS):Option (StmtS × PS) :=
 if noWords.any (fun w=>st.is T w) then none else do
  let (b,u) ← st.take T bReturn
  if b then
   if u.is T (b1 59)=true then none else do
    let (e,v) ← parseE T n .full u
    let w ← v.want T (b1 59)
    some (.mk 11 p zeroDecl (some e) [],w)
  else do
   let (s,v) ← simpleS T n p u
   let w ← v.want T (b1 59)
   some (s,w)
def parseS:Nat→ReqS→PS→Option (StmtS × PS)
 | 0,_,_=>none
 | n+1,.stmt,st=>do
  let u1 ← st.node T
  let u2 ← u1.down T
  if u2.fk≠0 then upS (some (.mk 0 (st.tok T).pos zeroDecl none [],u2)) else upS (
   if u2.is T (b1 59) then none else do
   let (b,u3) ← u2.take T (b1 123)
   if b=false then retS T n (st.tok T).pos u3 else parseS n (.block (st.tok T).pos []) u3)
 | n+1,.block p kids,st =>
  if st.fk≠0 then some (.mk 3 p zeroDecl none kids,st) else
  if 1000≤kids.length then none else do
   let (b,u1) ← st.take T (b1 125)
   if b then some (.mk 3 p zeroDecl none kids,u1) else do
    let (s,u2) ← parseS n .stmt u1
    parseS n (.block p (kids++[s])) u2
def paramsS (m:Nat):Nat→PS→List DeclS→Option (List DeclS × PS)
 | 0,_,_=>none
 | n+1,st,l =>
  if st.fk≠0 then some (l,st) else
  if typedT (st.tok T)=false then some (l,st.fail T 11) else do
   let (s,st) ← specS T st
   let (d,st) ← restS T m s st
   if d.ty.dims≠[] then none else do
   let st:=if 6 < l.length+1 then st.fail T 4 else st
   let (b,st) ← st.take T (b1 41)
   if b then some (l++[d],st) else do
    let st ← st.want T (b1 44)
    paramsS m n st (l++[d])
def parsS (n:Nat) (st:PS) (b:Bool):Option (List DeclS × PS):=if b then some ([],st) else
 if st.is T bVoid then none else paramsS T n n st []
def functionS (n:Nat) (d:DeclS) (st:PS):Option (FuncDS × PS):=do
 let st ← st.want T (b1 40)
 let (b,st) ← st.take T (b1 41)
 let (ps,st) ← parsS T n st b
 let st:=if st.is T (b1 123) then st else st.fail T 11
 let (s,st) ← parseS T n .stmt st
 some (⟨d.ty,d.name,d.pos,ps,s⟩,st)
def outerS (n:Nat) (u:UnitS) (st:PS):Option (UnitS × PS) :=
 if typedT (st.tok T)=false then some (u,st.fail T 11) else
 if st.is T bStruct then none else do
  let (s,st) ← specS T st
  let (d,st) ← restS T n s st
  if d.ty.dims=[]∧st.is T (b1 40)=true then do
   let (f,st) ← functionS T n d st
   some (⟨u.globals,u.funcs++[f]⟩,if 60 < u.funcs.length+1 then st.fail0 4 d.pos else st)
  else do
   let (b,st) ← st.take T (b1 61)
   if b then none else do
    let st ← st.want T (b1 59)
    some (⟨u.globals++[d],u.funcs⟩,if 60 < u.globals.length+1 then st.fail0 4 d.pos else st)
def outersS (m:Nat):Nat→UnitS→PS→Option (UnitS × PS)
 | 0,_,_=>none
 | n+1,u,st =>
  if st.fk≠0∨(st.tok T).kind=0 then some (u,st) else do
   let (u,st) ← outerS T m u st
   outersS m n u st
end
def tokN (L:List TokS) (i:Nat):TokS:=L.getD (min i (L.length - 1)) zeroTok
def startP:PS:=⟨0,0,0,0,0⟩
def parseU (n:Nat) (T:Nat→TokS):Option (Except (Nat × Nat) UnitS):=(outersS T n n ⟨[],[]⟩ startP).map fun r=>if r.2.fk≠0 then .error (r.2.fk,r.2.fa) else .ok r.1
end Go.Proofs.YtgpigfcagppohaaGreatDoor
namespace Go.Proofs.YtgpigfcagppohaaGreatDoor
theorem tl_get {s:ByteArray} {p:Nat}:tl s p=s.data.toList.drop p:=by
 unfold tl
 rw [Lib.extract_data]
 simp [List.take_of_length_le]
theorem at_cons {s:ByteArray} {p:Nat} {c:UInt8} {r:List UInt8} (h:tl s p=c::r):p < s.size∧chr s p=(c.toNat:Int)∧tl s (p+1)=r:=by
 rw [tl_get] at h
 have hlt:p < s.data.toList.length:=by
  rcases Nat.lt_or_ge p s.data.toList.length with h1|h1
  ·exact h1
  ·rw [List.drop_eq_nil_of_le h1] at h;cases h
 rw [List.drop_eq_getElem_cons hlt] at h
 injection h with h1 h2
 have hs:p < s.size:=by simpa using hlt
 refine ⟨hs,?_,by rw [tl_get];exact h2⟩
 rw [chr_lt hs,← h1];rfl
theorem at_nil {s:ByteArray} {p:Nat} (h:tl s p=[]):s.size≤p:=by
 rw [tl_get] at h
 have:=List.drop_eq_nil_iff.1 h
 simpa using this
theorem tl_app {s:ByteArray}:∀ (a b:List UInt8) (p:Nat),tl s p=a++b→tl s (p+a.length)=b:=by
 intro a
 induction a with
 | nil=>intro b p h;exact h
 | cons c a ih =>
  intro b p h
  have h1:=(at_cons (show tl s p=c::(a++b) from h)).2.2
  have:=ih b (p+1) h1
  rw [show p+(c::a).length=p+1+a.length by simp;omega];exact this
theorem tl_ext {s:ByteArray} {p:Nat} {a b:List UInt8} (h:tl s p=a++b):s.extract p (p+a.length)=⟨⟨a⟩⟩:=by
 have h0:(s.extract p (p+a.length)).data.toList=a:=by
  rw [Lib.extract_data]
  rw [tl_get] at h
  rw [h,show p+a.length - p=a.length by omega,List.take_left]
 cases he:s.extract p (p+a.length) with
 | mk d =>
  rw [he] at h0
  cases d with
  | mk l=>simp at h0;rw [h0]
theorem blank_here {s:ByteArray} {p:Nat} (hp:p < s.size) (h1:blankI (chr s p)=false) (h2:¬ (chr s p=47∧(chr s (p+1)=47∨chr s (p+1)=42))):blankS s p=(p,true):=by
 unfold blankS
 rw [show s.size - p=(s.size - (p+1))+1 by omega,blankF2,if_neg (by rw [h1];decide),if_neg (fun h=>h2 ⟨h.1,.inl h.2⟩),if_neg (fun h=>h2 ⟨h.1,.inr h.2⟩)]
theorem blank_step {s:ByteArray} {p:Nat} (hp:p < s.size) (h1:blankI (chr s p)=true):blankS s p=blankS s (p+1):=by
 unfold blankS
 rw [show s.size - p=(s.size - (p+1))+1 by omega,blankF2,if_pos h1]
def takeW:List UInt8→List UInt8
 | []=>[]
 | c::r=>if wordyI (ic c)=true then c::takeW r else []
def dropW:List UInt8→List UInt8
 | []=>[]
 | c::r=>if wordyI (ic c)=true then dropW r else c::r
theorem takeW_app:∀ l,takeW l++dropW l=l
 | []=>rfl
 | c::r=>by
  unfold takeW dropW
  split
  ·rw [List.cons_append,takeW_app r]
  ·rfl
theorem wordE_take {s:ByteArray}:∀ (l:List UInt8) (p:Nat),tl s p=l→wordE s p=p+(takeW l).length
 | [],p,h=>by
  have:=at_nil h
  rw [wordE_end (by rw [chr_ge (by omega)];decide)];rfl
 | c::r,p,h=>by
  obtain ⟨h1,h2,h3⟩:=at_cons h
  unfold takeW
  by_cases hw:wordyI (ic c)=true
  ·rw [if_pos hw,wordE_step (by rw [h2];exact hw),wordE_take r (p+1) h3]
   simp only [List.length_cons];omega
  ·rw [if_neg hw,wordE_end (by rw [h2];exact hw)];rfl
def numV:List UInt8→Nat→Option Nat
 | [],v=>some v
 | c::r,v=>if digitI (ic c)=true∧¬ (18446744073709551615 - (c.toNat - 48)) / 10 < v then numV r (v * 10+(c.toNat - 48)) else none
theorem digit_val {c:UInt8} (h:digitI (ic c)=true):valN (ic c)=c.toNat - 48∧c.toNat - 48 < 10∧wordyI (ic c)=true:=by
 have h0:=h
 unfold digitI ic at h
 simp only [Bool.and_eq_true,decide_eq_true_eq] at h
 refine ⟨?_,by omega,by unfold wordyI;rw [h0];simp⟩
 unfold valN valueI
 rw [if_pos h0]
 unfold ic;omega
theorem numL_take {s:ByteArray}:∀ (w b:List UInt8) (e v x:Nat),tl s e=w++b→(∀ c r,b=c::r→wordyI (ic c)=false)→numV w v=some x→numL s 10 (s.size - e) e v=some (x,e+w.length)
 | [],b,e,v,x,h,hb,hx=>by
  simp only [numV,Option.some.injEq] at hx
  subst hx
  by_cases he:e < s.size
  ·rw [numL_step he]
   match b,h,hb with
   | [],h,_=>have:=at_nil h;omega
   | c::r,h,hb =>
    have h2:=(at_cons h).2.1
    rw [if_neg (fun hc=>by rw [h2] at hc;have:=hb c r rfl;unfold ic at this;rw [this] at hc;exact absurd hc.1 (by decide))];rfl
  ·rw [numL_end he];rfl
 | c::w,b,e,v,x,h,hb,hx=>by
  obtain ⟨h1,h2,h3⟩:=at_cons (show tl s e=c::(w++b) from h)
  simp only [numV] at hx
  split at hx
  ·rename_i hc
   obtain ⟨d1,d2,d3⟩:=digit_val hc.1
   have e2:chr s e=ic c:=h2
   rw [numL_step h1,e2,if_pos ⟨d3,by omega⟩,d1,if_neg hc.2,numL_take w b (e+1) _ x h3 hb hx]
   simp only [List.length_cons];congr 2;omega
  ·cases hx
def headW (b:List UInt8):Bool:=match b with
 | []=>false
 | c::_=>wordyI (ic c)
theorem dropW_head:∀ l,headW (dropW l)=false
 | []=>rfl
 | c::r=>by
  unfold dropW
  split
  ·exact dropW_head r
  ·rename_i h;unfold headW;simpa using h
theorem number_take {s:ByteArray} {p:Nat} {w b:List UInt8} {x:Nat} (h:tl s p=w++b) (hb:headW b=false) (hx:numV w 0=some x) (hne:w≠[]):numberS s p=(⟨3,⟨⟨w⟩⟩,p,x,false,false⟩,true):=by
 have hb':∀ c r,b=c::r→wordyI (ic c)=false:=fun c r e=>by subst e;exact hb
 have hn:=numL_take w b p 0 x h hb' hx
 have hend:=tl_app w b p h
 have hnw:wordyI (chr s (p+w.length))=false:=by
  match b,hend,hb with
  | [],hend,_=>rw [chr_ge (by have:=at_nil hend;omega)];decide
  | c::r,hend,hb=>rw [(at_cons hend).2.1];exact hb
 have hu:(chr s (p+w.length) == 117)=false:=by
  rw [beq_eq_false_iff_ne];intro e;rw [e] at hnw;exact absurd hnw (by decide)
 have hl:(chr s (p+w.length) == 108)=false:=by
  rw [beq_eq_false_iff_ne];intro e;rw [e] at hnw;exact absurd hnw (by decide)
 have hhex:numHex s p=false:=by
  match w,hne,h,hx with
  | c::w',_,h,hx =>
   obtain ⟨h1,h2,h3⟩:=at_cons (show tl s p=c::(w'++b) from h)
   unfold numHex
   rw [Bool.and_eq_false_iff]
   match w',h3,hx with
   | d::w'',h3,hx =>
    right
    rw [(at_cons (show tl s (p+1)=d::(w''++b) from h3)).2.1,beq_eq_false_iff_ne]
    intro e
    simp only [numV] at hx
    split at hx
    ·rename_i hc
     obtain ⟨d1,d2,_⟩:=digit_val hc.1
     have:=hc.1
     split at hx
     ·rename_i hc2
      have:=hc2.1
      unfold digitI ic at this
      simp only [Bool.and_eq_true,decide_eq_true_eq] at this
      omega
     ·cases hx
    ·cases hx
   | [],h3,hx =>
    right
    match b,h3,hb with
    | [],h3,_=>rw [chr_ge (by have:=at_nil (show tl s (p+1)=[] from h3);omega)];decide
    | d::r,h3,hb =>
     rw [(at_cons (show tl s (p+1)=d::r from h3)).2.1,beq_eq_false_iff_ne]
     intro e
     have:wordyI (ic d)=false:=hb
     unfold ic at this
     rw [e] at this
     exact absurd this (by decide)
 unfold numberS
 rw [if_neg (by rw [hhex];decide)]
 unfold numberR
 rw [hn]
 dsimp only
 rw [if_neg (by cases w with|nil=>exact absurd rfl hne|cons c w=>simp)]
 unfold numTail
 simp only [hu,hl,Bool.false_eq_true,if_false,hnw]
 rw [tl_ext h];rfl
def slashB (l:List UInt8):Bool:=match l with
 | 47::47::_=>true
 | 47::42::_=>true
 | _=>false
def scanL:Nat→Nat→List UInt8→Option (List TokS)
 | 0,_,_=>none
 | n+1,p,[]=>some [endTok p]
 | n+1,p,c::r =>
  if blankI (ic c)=true then scanL n (p+1) r
  else if slashB (c::r)=true then none
  else if letterI (ic c)=true then
   (if (takeW (c::r)).length≤40 then (scanL n (p+(takeW (c::r)).length) (dropW (c::r))).map fun l=>⟨if isWord ⟨⟨takeW (c::r)⟩⟩=true then 2 else 1,⟨⟨takeW (c::r)⟩⟩,p,0,false,false⟩::l else none)
  else if digitI (ic c)=true then
   (match numV (takeW (c::r)) 0 with
   | some x=>(scanL n (p+(takeW (c::r)).length) (dropW (c::r))).map fun l=>⟨3,⟨⟨takeW (c::r)⟩⟩,p,x,false,false⟩::l
   | none=>none)
  else if c.toNat=39 then none
  else match signList.find? (fun x=>Lib.hasPrefix (c::r) x) with
   | some x=>(scanL n (p+x.length) ((c::r).drop x.length)).map fun l=>⟨4,⟨⟨x⟩⟩,p,0,false,false⟩::l
   | none=>none
theorem sign_len:signList.all (fun x=>Nat.ble 1 x.length)=true:=by kernel_rfl
theorem scanF_at {s:ByteArray} {n p q:Nat} {out:List TokS} (h:blankS s p=blankS s q):scanF s n p out=scanF s n q out∨n=0:=by
 cases n with
 | zero=>exact .inr rfl
 | succ n=>left;rw [scanF,scanF,h]
theorem scanL_ok {s:ByteArray}:∀ (n p:Nat) (ts:List TokS),p≤s.size→scanL n p (tl s p)=some ts→∀ m out,s.size - p < m→scanF s m p out=.ok (out++ts):=by
 intro n
 induction n with
 | zero=>intro p ts _ h;cases h
 | succ n ih =>
  intro p ts hp h m out hm
  obtain ⟨m,rfl⟩:∃ m',m=m'+1:=⟨m - 1,by omega⟩
  cases hl:tl s p with
  | nil =>
   rw [hl] at h
   simp only [scanL,Option.some.injEq] at h
   subst h
   have hpe:p=s.size:=by have:=at_nil hl;omega
   rw [scanF]
   have hb:blankS s p=(p,true):=by unfold blankS;exact blankF2_end (by omega)
   rw [hb]
   dsimp only
   rw [if_pos hpe]
  | cons c r =>
   rw [hl] at h
   obtain ⟨h1,h2,h3⟩:=at_cons hl
   have e2:chr s p=ic c:=h2
   simp only [scanL] at h
   by_cases hbl:blankI (ic c)=true
   ·rw [if_pos hbl] at h
    rcases scanF_at (n:=m+1) (out:=out) (blank_step h1 (by rw [e2];exact hbl)) with e|e
    ·rw [e];exact ih (p+1) ts (by omega) (by rw [h3];exact h) (m+1) out (by omega)
    ·omega
   ·rw [if_neg hbl] at h
    by_cases hsl:slashB (c::r)=true
    ·rw [if_pos hsl] at h;cases h
    ·rw [if_neg hsl] at h
     have hb:blankS s p=(p,true):=by
      refine blank_here h1 (by rw [e2];simpa using hbl) ?_
      rintro ⟨hc,hd⟩
      apply hsl
      have hc47:c=47:=by
       have:(c.toNat:Int)=47:=by rw [← h2];exact hc
       exact UInt8.toNat_inj.1 (by show c.toNat=47;omega)
      subst hc47
      cases hr:r with
      | nil=>rw [hr] at h3;rw [chr_ge (by have:=at_nil h3;omega)] at hd;rcases hd with hd|hd<;>exact absurd hd (by decide)
      | cons d r' =>
       rw [hr] at h3
       have hd2:=(at_cons h3).2.1
       rw [hd2] at hd
       rcases hd with hd|hd
       ·obtain rfl:d=47:=UInt8.toNat_inj.1 (by show d.toNat=47;omega)
        rfl
       ·obtain rfl:d=42:=UInt8.toNat_inj.1 (by show d.toNat=42;omega)
        rfl
     have key:∀ (t:TokS) (l:List TokS) (b:List UInt8),oneS s p=(t,true)→1≤t.text.size→p+t.text.size≤s.size→tl s (p+t.text.size)=b→scanL n (p+t.text.size) b=some l→ts=t::l→scanF s (m+1) p out=.ok (out++ts):=by
      intro t l b ho ht1 ht2 hb2 hsc hts
      rw [scanF,hb]
      dsimp only
      rw [if_neg (by omega),ho]
      dsimp only
      rw [ih (p+t.text.size) l ht2 (by rw [hb2];exact hsc) m _ (by omega),hts]
      simp
     have hword:=takeW_app (c::r)
     have htl:tl s p=takeW (c::r)++dropW (c::r):=by rw [hword];exact hl
     have hsz:∀ a:List UInt8,(⟨⟨a⟩⟩:ByteArray).size=a.length:=fun a=>rfl
     have hple:∀ a b:List UInt8,tl s p=a++b→p+a.length≤s.size:=fun a b e=>by
      have:=congrArg List.length e
      rw [tl_get] at this
      simp at this;omega
     by_cases hlt:letterI (ic c)=true
     ·rw [if_pos hlt] at h
      split at h
      ·rename_i h40
       obtain ⟨l,hl1,hl2⟩:=Option.map_eq_some_iff.1 h
       have hw1:1≤(takeW (c::r)).length:=by
        unfold takeW
        rw [if_pos (by unfold wordyI;rw [hlt];rfl)]
        simp
       have hE:=wordE_take (c::r) p hl
       refine key ⟨if isWord ⟨⟨takeW (c::r)⟩⟩=true then 2 else 1,⟨⟨takeW (c::r)⟩⟩,p,0,false,false⟩ l (dropW (c::r)) ?_ hw1 (hple _ _ htl) (tl_app _ _ p htl) hl1 hl2.symm
       unfold oneS
       rw [e2,if_pos hlt,hE,tl_ext htl,decide_eq_true (by omega)]
      ·cases h
     ·rw [if_neg hlt] at h
      by_cases hdg:digitI (ic c)=true
      ·rw [if_pos hdg] at h
       cases hnv:numV (takeW (c::r)) 0 with
       | none=>rw [hnv] at h;cases h
       | some x =>
        rw [hnv] at h
        obtain ⟨l,hl1,hl2⟩:=Option.map_eq_some_iff.1 h
        have hw1:1≤(takeW (c::r)).length:=by
         unfold takeW
         rw [if_pos (digit_val hdg).2.2]
         simp
        refine key ⟨3,⟨⟨takeW (c::r)⟩⟩,p,x,false,false⟩ l (dropW (c::r)) ?_ hw1 (hple _ _ htl) (tl_app _ _ p htl) hl1 hl2.symm
        unfold oneS
        rw [e2,if_neg hlt,if_pos hdg]
        exact number_take htl (dropW_head _) hnv (fun e=>by rw [e] at hw1;simp at hw1)
      ·rw [if_neg hdg] at h
       by_cases h39:c.toNat=39
       ·rw [if_pos h39] at h;cases h
       ·rw [if_neg h39] at h
        cases hf:signList.find? (fun x=>Lib.hasPrefix (c::r) x) with
        | none=>rw [hf] at h;cases h
        | some x =>
         rw [hf] at h
         obtain ⟨l,hl1,hl2⟩:=Option.map_eq_some_iff.1 h
         have hx1:1≤x.length:=by
          have:=List.all_eq_true.1 sign_len x (List.mem_of_find?_eq_some hf)
          simpa using this
         have hpre:x <+: (c::r):=by
          have:=List.find?_some hf
          unfold Lib.hasPrefix at this
          simpa using this
         obtain ⟨b,hxb⟩:=hpre
         have htl2:tl s p=x++b:=by rw [hxb];exact hl
         refine key ⟨4,⟨⟨x⟩⟩,p,0,false,false⟩ l b ?_ hx1 (hple _ _ htl2) (tl_app _ _ p htl2) (by rw [← hxb,List.drop_left] at hl1;exact hl1) hl2.symm
         unfold oneS
         have h39':¬ ic c=39:=by unfold ic;omega
         rw [e2,if_neg hlt,if_neg hdg,if_neg h39']
         have:signList.find? (signAt s p)=some x:=by
          rw [← hf]
          congr 1
          funext y
          unfold signAt
          rw [hl]
         rw [this]
theorem scan_list {l:List UInt8} {n:Nat} {ts:List TokS} (hl:l.length≤16384) (h:scanL n 0 l=some ts):scanS ⟨⟨l⟩⟩=.ok ts:=by
 have hs:(⟨⟨l⟩⟩:ByteArray).size=l.length:=rfl
 unfold scanS
 rw [if_neg (by omega)]
 have ht:tl ⟨⟨l⟩⟩ 0=l:=by rw [tl_get];rfl
 have:=scanL_ok (s:=⟨⟨l⟩⟩) n 0 ts (Nat.zero_le _) (by rw [ht];exact h) ((⟨⟨l⟩⟩:ByteArray).size+1) [] (by omega)
 simpa using this
end Go.Proofs.YtgpigfcagppohaaGreatDoor
namespace Go.Proofs.YtgpigfcagppohaaGreatDoor
def repL (s:List UInt8):Nat→List UInt8
 | 0=>[]
 | k+1=>repL s k++s
def chunk:Nat→List TokS→List (List TokS)
 | 0,_=>[]
 | n+1,l=>l.take 16::chunk n (l.drop 16)
def chunkG (c:List (List TokS)) (k i:Nat):TokS:=(c.getD (min i k / 16) []).getD (min i k % 16) zeroTok
theorem chunk_get:∀ (n:Nat) (l:List TokS) (i:Nat),l.length≤16 * n→((chunk n l).getD (i / 16) []).getD (i % 16) zeroTok=l.getD i zeroTok:=by
 intro n
 induction n with
 | zero =>
  intro l i h
  have:l=[]:=List.eq_nil_of_length_eq_zero (by omega)
  subst this;rfl
 | succ n ih =>
  intro l i h
  rw [chunk]
  by_cases hi:i < 16
  ·rw [show i / 16=0 by omega,show i % 16=i by omega]
   simp only [List.getD_eq_getElem?_getD,List.getElem?_cons_zero,Option.getD_some,List.getElem?_take,if_pos hi]
  ·obtain ⟨j,rfl⟩:∃ j,i=j+16:=⟨i - 16,by omega⟩
   rw [show (j+16) / 16=j / 16+1 by omega,show (j+16) % 16=j % 16 by omega]
   have:=ih (l.drop 16) j (by simp;omega)
   simp only [List.getD_eq_getElem?_getD,List.getElem?_cons_succ] at this ⊢
   rw [this,List.getElem?_drop,Nat.add_comm]
def parseL (L:List TokS):Option (Except (Nat × Nat) UnitS):=parseU 1000 (chunkG (chunk 64 L) (L.length - 1))
theorem parseL_eq {L:List TokS} (h:L.length≤1024):parseL L=parseU 1000 (tokN L):=by
 unfold parseL
 congr 1
 funext i
 unfold chunkG tokN
 exact chunk_get 64 L _ (by omega)
def parseT (l:List UInt8):Option (Except (Nat × Nat) UnitS):=(scanL 1000 0 l).bind parseL
def kindT (l:List UInt8):Option Nat:=(parseT l).map fun r=>match r with
 | .error p=>p.1
 | .ok _=>0
def ExprS.text:ExprS→ByteArray
 | .mk _ _ t _ _ _=>t
def ExprS.kids:ExprS→List ExprS
 | .mk _ _ _ _ _ k=>k
end Go.Proofs.YtgpigfcagppohaaGreatDoor
