/-
  What the functions that the law reaches compute,told by plain data;it holds of programs that pass the check of right form and are light.
-/
import Derived.Test.YtbmmchaaiakanaaDoorR1
import Derived.Test.YtbmmchaaiakanaaDoorR2
import Derived.Test.YtbmmchaaiakanaaDoorS1
import Derived.Test.YtbmmchaaiakanaaDoorS2
set_option linter.unusedVariables false
set_option linter.unusedSimpArgs false
namespace Go.Proofs.YtbmmchaaiakanaaDoor
structure SpecS where
 secret:Bool
 word:ByteArray
 uns:Bool
 strct:ByteArray
 pos:Nat
structure TypeS where
 spec:SpecS
 stars:Nat
 dims:List Nat
structure DeclS where
 ty:TypeS
 name:ByteArray
 pos:Nat
def zeroSpec:SpecS:=⟨false,⟨#[]⟩,false,⟨#[]⟩,0⟩
def zeroType:TypeS:=⟨zeroSpec,0,[]⟩
def zeroDecl:DeclS:=⟨zeroType,⟨#[]⟩,0⟩
inductive ExprS where
 | mk (op pos:Nat) (text:ByteArray) (tok:TokS) (ty:TypeS) (kids:List ExprS)
def zeroExpr:ExprS:=.mk 0 0 ⟨#[]⟩ zeroTok zeroType []
inductive StmtS where
 | mk (kind pos:Nat) (decl:DeclS) (e:Option ExprS) (kids:List StmtS)
structure FuncDS where
 ret:TypeS
 name:ByteArray
 pos:Nat
 params:List DeclS
 body:StmtS
structure UnitS where
 globals:List DeclS
 funcs:List FuncDS
structure PS where
 at_:Nat
 deep:Nat
 nodes:Nat
 fk:Nat
 fa:Nat
section
variable (T:Nat→TokS)
def PS.tok (st:PS):TokS:=T st.at_
def PS.fail (st:PS) (k:Nat):PS:=if st.fk=0 then { st with fk:=k,fa:=(st.tok T).pos } else st
def PS.fail0 (st:PS) (k p:Nat):PS:=if st.fk=0 then { st with fk:=k,fa:=p } else st
def eqB (a b:ByteArray):Bool:=a.data.toList == b.data.toList
theorem eqB_iff {a b:ByteArray}:eqB a b=true↔a=b:=by
 unfold eqB
 rw [beq_iff_eq]
 constructor
 ·intro h;cases a with|mk x=>cases b with|mk y=>exact congrArg ByteArray.mk (Array.ext' h)
 ·intro h;rw [h]
def wordy (t:TokS) (s:ByteArray):Bool:=(t.kind == 4 || t.kind == 2) && eqB t.text s
def PS.is (st:PS) (s:ByteArray):Bool:=wordy (st.tok T) s
def PS.adv (st:PS):Option PS:=if st.at_ < 1000000 then some { st with at_:=st.at_+1 } else none
def PS.take (st:PS) (s:ByteArray):Option (Bool × PS):=if st.fk=0∧st.is T s=true then (st.adv).map fun t=>(true,t) else some (false,st)
def PS.want (st:PS) (s:ByteArray):Option PS:=(st.take T s).map fun r=>if r.1 then r.2 else r.2.fail T 11
def PS.name (st:PS):Option (ByteArray × PS):=if st.fk=0∧(st.tok T).kind=1 then (st.adv).map fun t=>((st.tok T).text,t) else some (⟨#[]⟩,st.fail T 11)
def PS.down (st:PS):Option PS:=if st.deep < 1000000 then some (if 60 < st.deep+1 then { st with deep:=st.deep+1 }.fail T 3 else { st with deep:=st.deep+1 }) else none
def PS.up (st:PS):Option PS:=if 0 < st.deep then some { st with deep:=st.deep - 1 } else none
def PS.node (st:PS):Option PS:=if st.nodes < 1000000 then some (if 6000 < st.nodes+1 then { st with nodes:=st.nodes+1 }.fail T 2 else { st with nodes:=st.nodes+1 }) else none
def exprS (st:PS) (op pos:Nat) (text:ByteArray) (kids:List ExprS):Option (ExprS × PS):=(st.node T).map fun t=>(.mk op pos text zeroTok zeroType kids,t)
end
def bChar:ByteArray:=⟨#[99,104,97,114]⟩
def bShort:ByteArray:=⟨#[115,104,111,114,116]⟩
def bInt:ByteArray:=⟨#[105,110,116]⟩
def bLong:ByteArray:=⟨#[108,111,110,103]⟩
def bUns:ByteArray:=⟨#[117,110,115,105,103,110,101,100]⟩
def bSig:ByteArray:=⟨#[115,105,103,110,101,100]⟩
def bVoid:ByteArray:=⟨#[118,111,105,100]⟩
def bStruct:ByteArray:=⟨#[115,116,114,117,99,116]⟩
def bSecret:ByteArray:=⟨#[115,101,99,114,101,116]⟩
def bPublic:ByteArray:=⟨#[112,117,98,108,105,99]⟩
def b1 (a:UInt8):ByteArray:=⟨#[a]⟩
def b2 (a b:UInt8):ByteArray:=⟨#[a,b]⟩
def typeWords:List ByteArray:=[bChar,bShort,bInt,bLong,bUns,bSig,bVoid,bStruct,bSecret,bPublic]
def typedT (t:TokS):Bool:=t.kind == 2 && typeWords.any (fun w=>eqB t.text w)
def levelS (s:ByteArray):Nat :=
 if eqB s (b2 124 124) then 1 else if eqB s (b2 38 38) then 2 else if eqB s (b1 124) then 3 else if eqB s (b1 94) then 4 else if eqB s (b1 38) then 5
 else if eqB s (b2 61 61) || eqB s (b2 33 61) then 6 else if eqB s (b1 60) || eqB s (b1 62) || eqB s (b2 60 61) || eqB s (b2 62 61) then 7
 else if eqB s (b2 60 60) || eqB s (b2 62 62) then 8 else if eqB s (b1 43) || eqB s (b1 45) then 9 else if eqB s (b1 42) || eqB s (b1 47) || eqB s (b1 37) then 10 else 0
def assigns:List ByteArray:=[b1 61,b2 43 61,b2 45 61,b2 42 61,b2 47 61,b2 37 61,b2 38 61,b2 124 61,b2 94 61,⟨#[60,60,61]⟩,⟨#[62,62,61]⟩]
section
variable (T:Nat→TokS)
def bSizeof:ByteArray:=⟨#[115,105,122,101,111,102]⟩
def specW (s:SpecS) (st:PS) (sg:Bool):List ByteArray→Option (SpecS × PS)
 | []=>some ({ s with word:=bInt },if s.uns || sg then st else st.fail T 11)
 | w::l=>do
  let (b,st) ← st.take T w
  if b then some ({ s with word:=w },st) else specW s st sg l
def specPub (st:PS) (sec:Bool):Option PS:=if sec then some st else (st.take T bPublic).map (·.2)
def specSig (st:PS) (u:Bool):Option (Bool × PS):=if u then some (false,st) else st.take T bSig
def specS (st:PS):Option (SpecS × PS):=do
 let p:=(st.tok T).pos
 let (sec,st) ← st.take T bSecret
 let st ← specPub T st sec
 let (b,st) ← st.take T bStruct
 if b then none else do
  let (v,st) ← st.take T bVoid
  if v then some (⟨sec,bVoid,false,⟨#[]⟩,p⟩,st) else do
   let (u,st) ← st.take T bUns
   let (g,st) ← specSig T st u
   specW T ⟨sec,⟨#[]⟩,u,⟨#[]⟩,p⟩ st g [bChar,bShort,bInt,bLong]
def starsS:Nat→PS→Nat→Option (Nat × PS)
 | 0,_,_=>none
 | n+1,st,k=>do
  let (b,st) ← st.take T (b1 42)
  if b then (if k < 1000000 then starsS n st (k+1) else none) else some (k,st)
def dimsS (st:PS):Option (List Nat × PS):=do
 let (b,st) ← st.take T (b1 91)
 if b then none else some ([],st)
def restS (n:Nat) (s:SpecS) (st:PS):Option (DeclS × PS):=do
 let (k,st) ← starsS T n st 0
 let (b,st) ← st.take T (b1 40)
 if b then none else do
  let p:=(st.tok T).pos
  let (x,st) ← st.name T
  let (d,st) ← dimsS T st
  some (⟨⟨s,k,d⟩,x,p⟩,st)
inductive Req where
 | full
 | choice
 | binary (k:Nat)
 | binL (k:Nat) (e:ExprS)
 | unary
 | primary
 | paren
 | post (e:ExprS)
def upE (r:Option (ExprS × PS)):Option (ExprS × PS):=do
 let (e,st) ← r
 let st ← st.up
 some (e,st)
def binE (t:TokS) (e r:ExprS) (st:PS):Option (ExprS × PS) :=
 if eqB t.text (b2 124 124) then exprS T st 14 t.pos ⟨#[]⟩ [e,r] else if eqB t.text (b2 38 38) then exprS T st 13 t.pos ⟨#[]⟩ [e,r] else exprS T st 12 t.pos t.text [e,r]
def signK (t:TokS):Nat:=if t.kind=4 then levelS t.text else 0
def unaries:List ByteArray:=[b1 45,b1 126,b1 33,b1 42,b1 38]
def sepS (st:PS):Option PS:=if st.is T (b1 41) then some st else (st.want T (b1 44)).map fun st=>if st.is T (b1 41) then st.fail T 11 else st
def ExprS.withTok (t:TokS):ExprS→ExprS
 | .mk op pos text _ ty kids=>.mk op pos text t ty kids
def ExprS.withTy (ty:TypeS):ExprS→ExprS
 | .mk op pos text t _ kids=>.mk op pos text t ty kids
def parseE:Nat→Req→PS→Option (ExprS × PS)
 | 0,_,_=>none
 | n+1,.full,st=>do
  let st ← st.down T
  if st.fk≠0 then upE (some (zeroExpr,st)) else upE (do
   let (e,st) ← parseE n .choice st
   let t:=st.tok T
   if st.fk≠0∨t.kind≠4 then some (e,st)
   else if assigns.any (fun a=>eqB t.text a) then none
   else some (e,st))
 | n+1,.choice,st=>do
  let (e,st) ← parseE n (.binary 1) st
  let p:=(st.tok T).pos
  let (b,st) ← st.take T (b1 63)
  if b then none
  else some (e,st)
 | n+1,.binary k,st=>do
  let (e,st) ← parseE n .unary st
  parseE n (.binL k e) st
 | n+1,.binL k e,st =>
  if st.fk≠0 then some (e,st) else
   let t:=st.tok T
   if signK t < k∨signK t=0 then some (e,st) else do
    let st ← st.adv
    let (r,st) ← parseE n (.binary (signK t+1)) st
    let (e,st) ← binE T t e r st
    parseE n (.binL k e) st
 | n+1,.unary,st=>do
  let st ← st.down T
  if st.fk≠0 then upE (some (zeroExpr,st)) else upE (
   let t:=st.tok T
   if t.kind=4∧unaries.any (fun a=>eqB t.text a)=true then do
    let st ← st.adv
    let (e,st) ← parseE n .unary st
    exprS T st 7 t.pos t.text [e]
   else if t.kind=4∧(eqB t.text (b2 43 43) || eqB t.text (b2 45 45))=true then none
   else if t.kind=4∧(eqB t.text (b1 40))=true∧(typedT (T (st.at_+1))=true∨¬ st.at_ < 1000000) then none
   else do
    let (b,st) ← st.take T bSizeof
    if b then none else do
     let (e,st) ← parseE n .primary st
     parseE n (.post e) st)
 | n+1,.primary,st =>
  let t:=st.tok T
  if t.kind=3 then do
   let st ← st.adv
   let (e,st) ← exprS T st 1 t.pos ⟨#[]⟩ []
   some (e.withTok t,st)
  else if t.kind=1 then do
   let st ← st.adv
   exprS T st 2 t.pos t.text []
  else if st.is T (b1 40) then parseE n .paren st
  else some (zeroExpr,st.fail T 11)
 | n+1,.paren,st=>do
  let st ← st.want T (b1 40)
  let (e,st) ← parseE n .full st
  let st ← st.want T (b1 41)
  some (e,st)
 | n+1,.post e,st =>
  if st.fk≠0 then some (e,st) else
   if st.is T (b1 91) || st.is T (b1 46) || st.is T (b2 45 62) || st.is T (b2 43 43) || st.is T (b2 45 45) || st.is T (b1 40) then none else some (e,st)
def upS (r:Option (StmtS × PS)):Option (StmtS × PS):=do
 let (e,st) ← r
 let st ← st.up
 some (e,st)
def noWords:List ByteArray:=[⟨#[105,102]⟩,⟨#[119,104,105,108,101]⟩,⟨#[100,111]⟩,⟨#[102,111,114]⟩,⟨#[115,119,105,116,99,104]⟩,⟨#[98,114,101,97,107]⟩,⟨#[99,111,110,116,105,110,117,101]⟩]
def bReturn:ByteArray:=⟨#[114,101,116,117,114,110]⟩
def retS (n p:Nat) (st:PS):Option (StmtS × PS) :=
 if noWords.any (fun w=>st.is T w) then none else do
  let (b,u) ← st.take T bReturn
  if b=false∨u.is T (b1 59)=true then none else do
   let (e,v) ← parseE T n .full u
   let w ← v.want T (b1 59)
   some (.mk 11 p zeroDecl (some e) [],w)
def parseS:Nat→PS→Option (StmtS × PS)
 | 0,_=>none
 | n+1,st=>do
  let u1 ← st.node T
  let u2 ← u1.down T
  if u2.fk≠0 then upS (some (.mk 0 (st.tok T).pos zeroDecl none [],u2)) else upS (
   if u2.is T (b1 59) then none else do
   let (b,u3) ← u2.take T (b1 123)
   if b=false then retS T n (st.tok T).pos u3 else do
   let (b,u4) ← u3.take T (b1 125)
   if b then some (.mk 3 (st.tok T).pos zeroDecl none [],u4) else do
   let (s,u5) ← parseS n u4
   if u5.fk≠0 then some (.mk 3 (st.tok T).pos zeroDecl none [s],u5) else do
   let (b,u6) ← u5.take T (b1 125)
   if b then some (.mk 3 (st.tok T).pos zeroDecl none [s],u6) else none)
def paramsS (m:Nat):Nat→PS→List DeclS→Option (List DeclS × PS)
 | 0,_,_=>none
 | n+1,st,l =>
  if st.fk≠0 then some (l,st) else
  if typedT (st.tok T)=false then some (l,st.fail T 11) else do
   let (s,st) ← specS T st
   let (d,st) ← restS T m s st
   let st:=if 6 < l.length+1 then st.fail T 4 else st
   let (b,st) ← st.take T (b1 41)
   if b then some (l++[d],st) else do
    let st ← st.want T (b1 44)
    paramsS m n st (l++[d])
def parsS (n:Nat) (st:PS) (b:Bool):Option (List DeclS × PS):=if b then some ([],st) else
 if st.is T bVoid then none else paramsS T n n st []
def functionS (n:Nat) (d:DeclS) (st:PS):Option (FuncDS × PS):=do
 let st ← st.want T (b1 40)
 let (b,st) ← st.take T (b1 41)
 let (ps,st) ← parsS T n st b
 let st:=if st.is T (b1 123) then st else st.fail T 11
 let (s,st) ← parseS T n st
 some (⟨d.ty,d.name,d.pos,ps,s⟩,st)
def outerS (n:Nat) (u:UnitS) (st:PS):Option (UnitS × PS) :=
 if typedT (st.tok T)=false then some (u,st.fail T 11) else
 if st.is T bStruct then none else do
  let (s,st) ← specS T st
  let (d,st) ← restS T n s st
  if d.ty.dims=[]∧st.is T (b1 40)=true then do
   let (f,st) ← functionS T n d st
   some (⟨u.globals,u.funcs++[f]⟩,if 60 < u.funcs.length+1 then st.fail0 4 d.pos else st)
  else do
   let (b,st) ← st.take T (b1 61)
   if b then none else do
    let st ← st.want T (b1 59)
    some (⟨u.globals++[d],u.funcs⟩,if 60 < u.globals.length+1 then st.fail0 4 d.pos else st)
def outersS (m:Nat):Nat→UnitS→PS→Option (UnitS × PS)
 | 0,_,_=>none
 | n+1,u,st =>
  if st.fk≠0∨(st.tok T).kind=0 then some (u,st) else do
   let (u,st) ← outerS T m u st
   outersS m n u st
end
def tokN (L:List TokS) (i:Nat):TokS:=L.getD (min i (L.length - 1)) zeroTok
def startP:PS:=⟨0,0,0,0,0⟩
def parseU (n:Nat) (T:Nat→TokS):Option (Except (Nat × Nat) UnitS):=(outersS T n n ⟨[],[]⟩ startP).map fun r=>if r.2.fk≠0 then .error (r.2.fk,r.2.fa) else .ok r.1
open Go.AH
def Old (h h':Hp):Prop:=h.n≤h'.n∧∀ i,i < h.n→h'.m i=h.m i
def OffP (pb:Nat) (h h':Hp):Prop:=h.n≤h'.n∧∀ i,i < h.n→i≠pb→h'.m i=h.m i
theorem OffP.refl (pb:Nat) (h:Hp):OffP pb h h:=⟨Nat.le_refl _,fun _ _ _=>rfl⟩
theorem OffP.trans {pb:Nat} {a b c:Hp} (h1:OffP pb a b) (h2:OffP pb b c):OffP pb a c:=⟨Nat.le_trans h1.1 h2.1,fun i hi hn=>by rw [h2.2 i (Nat.lt_of_lt_of_le hi h1.1) hn,h1.2 i hi hn]⟩
theorem OffP.set {pb:Nat} (h:Hp) (b:Blk):OffP pb h (h.set pb b):=⟨Nat.le_refl _,fun i _ hn=>by show (if i=pb then some b else h.m i)=_;rw [if_neg hn]⟩
theorem Old.off {pb:Nat} {a b:Hp} (h:Old a b):OffP pb a b:=⟨h.1,fun i hi _=>h.2 i hi⟩
def tokC (t:TokS):List Value:=[.int .i64 t.kind,.string t.text,.int .i64 t.pos,.int .u64 t.value,.bool t.uns,.bool t.long]
def toksC (l:List TokS):List Value:=l.flatMap tokC
theorem toksC_length (l:List TokS):(toksC l).length=l.length * 6:=by
 induction l with
 | nil=>rfl
 | cons t l ih=>simp only [toksC,List.flatMap_cons,List.length_append,List.length_cons] at ih ⊢;rw [ih];simp [tokC];omega
theorem toksC_take:∀ {L:List TokS} {i:Nat} {t:TokS},L[i]?=some t→takeV (0+i * 6) 6 (toksC L)=tokC t:=by
 intro L
 induction L with
 | nil=>intro i t h;simp at h
 | cons a L ih =>
  intro i t h
  rw [takeV_eq]
  cases i with
  | zero=>simp at h;subst h;simp [toksC,tokC]
  | succ i =>
   have:=ih (i:=i) (t:=t) (by simpa using h)
   rw [takeV_eq] at this
   rw [show 0+(i+1) * 6=(0+i * 6)+6 by omega,← List.drop_drop]
   simpa [toksC,tokC] using this
def psC (L:List TokS) (tb cap:Nat) (st:PS):List Value:=[.slice (some ⟨tb,0,none⟩) L.length cap,.int .i64 st.at_,.int .i64 st.deep,.int .i64 st.nodes,.int .i64 st.fk,.int .i64 st.fa]
structure PS.Fits (st:PS):Prop where
 a:st.at_≤1000000
 d:st.deep≤1000000
 n:st.nodes≤1000000
structure ParAt (L:List TokS) (tb cap pb:Nat) (h:Hp) (st:PS):Prop where
 tok:h.m tb=some ⟨⟨toksC L⟩,56⟩
 par:h.m pb=some ⟨⟨psC L tb cap st⟩,66⟩
 fits:st.Fits
 rw:rwM≤pb
 ne:tb≠pb
structure ToksOK (L:List TokS):Prop where
 pos:0 < L.length
 le:L.length≤1000000
theorem ParAt.off {L:List TokS} {tb cap pb:Nat} {h h':Hp} {st:PS} (p:ParAt L tb cap pb h st) (o:Old h h') (hd:∀ i b,h.m i=some b→i < h.n):ParAt L tb cap pb h' st :=
 ⟨by rw [o.2 _ (hd _ _ p.tok)];exact p.tok,by rw [o.2 _ (hd _ _ p.par)];exact p.par,p.fits,p.rw,p.ne⟩
theorem ParAt.set {L:List TokS} {tb cap pb:Nat} {h:Hp} {st st':PS} (p:ParAt L tb cap pb h st) (f:st'.Fits):ParAt L tb cap pb (h.set pb ⟨⟨psC L tb cap st'⟩,66⟩) st' :=
 ⟨by show (if tb=pb then _ else h.m tb)=_;rw [if_neg p.ne];exact p.tok,by show (if pb=pb then _ else _)=_;rw [if_pos rfl],f,p.rw,p.ne⟩
theorem PS.Fits.fail {L:Nat→TokS} {st:PS} (f:st.Fits) (k:Nat):(st.fail L k).Fits:=by unfold PS.fail;split<;>exact ⟨f.a,f.d,f.n⟩
theorem PS.Fits.fail0 {st:PS} (f:st.Fits) (k p:Nat):(st.fail0 k p).Fits:=by unfold PS.fail0;split<;>exact ⟨f.a,f.d,f.n⟩
theorem PS.Fits.adv {st t:PS} (f:st.Fits) (h:st.adv=some t):t.Fits:=by
 unfold PS.adv at h
 split at h
 ·injection h with h;subst h;exact ⟨by show st.at_+1≤_;omega,f.d,f.n⟩
 ·cases h
theorem PS.Fits.take {L:Nat→TokS} {st t:PS} {s:ByteArray} {b:Bool} (f:st.Fits) (h:st.take L s=some (b,t)):t.Fits:=by
 unfold PS.take at h
 split at h
 ·obtain ⟨u,h1,h2⟩:=Option.map_eq_some_iff.1 h
  injection h2 with _ h2
  subst h2;exact f.adv h1
 ·injection h with h;injection h with _ h;subst h;exact f
theorem PS.Fits.up {st t:PS} (f:st.Fits) (h:st.up=some t):t.Fits:=by
 unfold PS.up at h
 split at h
 ·injection h with h;subst h;have:=f.d;exact ⟨f.a,by show st.deep - 1≤_;omega,f.n⟩
 ·cases h
def specC (s:SpecS):List Value:=[.bool s.secret,.string s.word,.bool s.uns,.string s.strct,.int .i64 s.pos]
def typeC (t:TypeS) (A:Option Addr) (c:Nat):List Value:=specC t.spec++[.int .i64 t.stars,.slice A t.dims.length c,.bool false,.slice none 0 0]
def declC (d:DeclS) (A:Option Addr) (c:Nat):List Value:=typeC d.ty A c++[.string d.name,.int .i64 d.pos]
def RowAt (h:Hp) (lo:Nat) (e:TypeId) (A:Option Addr) (cs:List Value):Prop:=(cs=[]∧A=none)∨∃ b,A=some ⟨b,0,none⟩∧lo≤b∧h.m b=some ⟨⟨cs⟩,e⟩
def dimsC (l:List Nat):List Value:=l.map fun (n:Nat)=>Value.int .i64 (n:Int)
def ptrC (p:Nat):Value:=.pointer (some ⟨p,0,none⟩)
def exprC (op pos:Nat) (text:ByteArray) (tok:TokS) (ty:TypeS) (D:Option Addr) (d:Nat) (A:Option Addr) (n c:Nat):List Value:=[.int .i64 op,.int .i64 pos,.string text]++tokC tok++typeC ty D d++[.slice A n c]
inductive ExprAt (h:Hp) (lo:Nat):Nat→ExprS→Prop
 | mk {b op pos:Nat} {text:ByteArray} {tok:TokS} {ty:TypeS} {kids:List ExprS} {D:Option Addr} {d:Nat} {A:Option Addr} {c:Nat} {ps:List Nat} (h0:lo≤b) (hm:h.m b=some ⟨⟨exprC op pos text tok ty D d A kids.length c⟩,59⟩)
  (hd:RowAt h lo 3 D (dimsC ty.dims)) (hk:RowAt h lo 45 A (ps.map ptrC)) (hl:ps.length=kids.length) (hr:∀ (i p:Nat) (k:ExprS),ps[i]?=some p→kids[i]?=some k→ExprAt h lo p k):ExprAt h lo b (.mk op pos text tok ty kids)
def Upto (lo:Nat) (h h':Hp):Prop:=∀ i,lo≤i→∀ b,h.m i=some b→h'.m i=some b
theorem RowAt.up {h h':Hp} {lo lo':Nat} {e:TypeId} {A:Option Addr} {cs:List Value} (r:RowAt h lo e A cs) (hu:Upto lo h h') (hl:lo'≤lo):RowAt h' lo' e A cs:=by
 rcases r with ⟨h1,h2⟩|⟨b,h1,h2,h3⟩
 ·exact .inl ⟨h1,h2⟩
 ·exact .inr ⟨b,h1,Nat.le_trans hl h2,hu _ h2 _ h3⟩
theorem ExprAt.up {h h':Hp} {lo lo':Nat} (hu:Upto lo h h') (hl:lo'≤lo):∀ {b:Nat} {e:ExprS},ExprAt h lo b e→ExprAt h' lo' b e:=by
 intro b e he
 induction he with
 | mk h0 hm hd hk hlen hr ih=>exact .mk (Nat.le_trans hl h0) (hu _ h0 _ hm) (hd.up hu hl) (hk.up hu hl) hlen ih
def EOpt (h:Hp) (lo:Nat):Value→Option ExprS→Prop
 | v,none=>v=.pointer none
 | v,some e=>∃ b,v=ptrC b∧ExprAt h lo b e
theorem EOpt.up {h h':Hp} {lo lo':Nat} (hu:Upto lo h h') (hl:lo'≤lo) {v:Value} {e:Option ExprS} (he:EOpt h lo v e):EOpt h' lo' v e:=by
 cases e with
 | none=>exact he
 | some e=>obtain ⟨b,h1,h2⟩:=he;exact ⟨b,h1,h2.up hu hl⟩
def stmtC (kind pos:Nat) (d:DeclS) (D:Option Addr) (c:Nat) (E:Value) (A:Option Addr) (n k:Nat):List Value:=[.int .i64 kind,.int .i64 pos]++declC d D c++[E,.pointer none,.slice A n k,.slice none 0 0]
inductive StmtAt (h:Hp) (lo:Nat):Nat→StmtS→Prop
 | mk {b kind pos:Nat} {dc:DeclS} {e:Option ExprS} {kids:List StmtS} {D:Option Addr} {d:Nat} {E:Value} {A:Option Addr} {c:Nat} {ps:List Nat} (h0:lo≤b) (hm:h.m b=some ⟨⟨stmtC kind pos dc D d E A kids.length c⟩,49⟩)
  (hd:RowAt h lo 3 D (dimsC dc.ty.dims)) (he:EOpt h lo E e) (hk:RowAt h lo 51 A (ps.map ptrC)) (hl:ps.length=kids.length) (hr:∀ (i p:Nat) (k:StmtS),ps[i]?=some p→kids[i]?=some k→StmtAt h lo p k):StmtAt h lo b (.mk kind pos dc e kids)
theorem StmtAt.up {h h':Hp} {lo lo':Nat} (hu:Upto lo h h') (hl:lo'≤lo):∀ {b:Nat} {e:StmtS},StmtAt h lo b e→StmtAt h' lo' b e:=by
 intro b e he
 induction he with
 | mk h0 hm hd he hk hlen hr ih=>exact .mk (Nat.le_trans hl h0) (hu _ h0 _ hm) (hd.up hu hl) (he.up hu hl) (hk.up hu hl) hlen ih
theorem OffP.upto {pb lo:Nat} {h h':Hp} (o:OffP pb h h') (hd:∀ i b,h.m i=some b→i < h.n) (hlo:pb < lo):Upto lo h h':=fun i hi b hb=>by rw [o.2 i (hd i b hb) (by omega)];exact hb
attribute [local irreducible] W RS
theorem toksC_snoc (l:List TokS) (t:TokS):toksC (l++[t])=toksC l++tokC t:=by simp [toksC]
def scanV (n:Nat):Except (Nat × Nat) (List TokS)→Value
 | .error (k,p)=>.tuple ⟨[.slice none 0 0,.agg ⟨[.int .i64 k,.int .i64 p]⟩]⟩
 | .ok l=>.tuple ⟨[.slice (some ⟨n,0,none⟩) l.length (capOf 6),.agg ⟨[.int .i64 0,.int .i64 0]⟩]⟩
def scanH (h:Hp):Except (Nat × Nat) (List TokS)→Hp
 | .error _=>h
 | .ok l=>h.push ⟨⟨toksC l⟩,56⟩
def outV (b:Nat):List TokS→Value
 | []=>.slice none 0 0
 | t::l=>.slice (some ⟨b,0,none⟩) (t::l).length (capOf 6)
def outB:List TokS→Option Blk
 | []=>none
 | t::l=>some ⟨⟨toksC (t::l)⟩,56⟩
def ScanE (s:ByteArray) (h:Hp) (vs:List Value) (h':SH):Prop:=h'.base=h∧match scanS s with
 | .error (k,p)=>resultOf vs=.tuple ⟨[.slice none 0 0,.agg ⟨[.int .i64 k,.int .i64 p]⟩]⟩
 | .ok l=>∃ i,i < h'.k∧lookB h'.l i=some ⟨⟨toksC l⟩,56⟩∧resultOf vs=.tuple ⟨[.slice (some ⟨h'.π i,0,none⟩) l.length (capOf 6),.agg ⟨[.int .i64 0,.int .i64 0]⟩]⟩
set_option maxRecDepth 100000 in
theorem scan_tf (s:ByteArray) (h:Hp) (hg:GL h∧GS h):TF Tryd.prog 9 ⟨[.string s]⟩ h (scanV h.n (scanS s)) (scanH h (scanS s)):=by
 refine hg.1.tf fun hn=>?_
 refine hg.2.tf fun hn0=>?_
 refine TF.ends (fn:=Tryd.f9) (c:=(Tryd.f9.body.getD .skip)) (Q:=ScanE s h) Tryd.func9 (by kernel_rfl) Tryd.ntmps9 (by kernel_rfl) ?_ ?_
 ·conv=>arg 2;whnf
  repeat (first|refine Y4 ?_|refine Yu ?_|refine Yr ?_|refine Y8 ?_|refine Y0 ?_|refine Y12 ?_|refine Y1 ?_)
  with_reducible apply W.condD
  exact rfl
  ·intro hbig
   repeat (first|refine Ys ?_|refine Y2 ?_|refine Yi ?_|refine Y0 ?_|refine Yy ?_|refine Y1 ?_)
   refine endsK_ret _ (.cons (.tmp rfl) (.cons (.cellN rfl rfl rfl (Nat.le_of_ble_eq_true rfl)) .nil)) ⟨rfl,?_⟩
   have e:scanS s=.error (2,16384):=by unfold scanS;rw [if_pos (by omega)]
   rw [e];rfl
  ·intro hsm
   have hs:s.size≤1000000:=by omega
   repeat (first|refine Ys ?_|refine Y0 ?_|(with_reducible first|apply W.seq|apply W.block|apply W.skip|apply thenK_n)|refine Y1 ?_)
   with_reducible apply W.ghost
   refine W.loop (X:=Nat × Nat × List TokS) (fun π x=>[(0,.string s),(3,.pointer (some ⟨π 0,0,none⟩)),(4,outV (π 1) x.2.2),(5,.int .i64 x.2.1)]) (fun _=>h) (fun π x=>[(0,some ⟨⟨[.int .i64 0,.int .i64 0]⟩,27⟩),(1,outB x.2.2)]) (fun x=>scanS s=scanF s x.1 x.2.1 x.2.2∧x.2.1≤s.size∧s.size - x.2.1 < x.1∧x.2.2.length≤x.2.1) (fun x=>x.1) [0,1] (s.size+1,0,[]) ⟨by unfold scanS;rw [if_neg (by omega)],by simp only;omega,by simp only;omega,by simp⟩ (by (refine FitL.mk ?_ ?_ ?_ ?_<;>(repeat' (first|exact trivial|exact rfl|apply And.intro));done)) ?_
   intro π x hI
   obtain ⟨n,p,out⟩:=x
   obtain ⟨q1,q2,q3,q4⟩:=hI
   dsimp only at q1 q2 q3 q4 ⊢
   cases n with
   | zero=>omega
   | succ n =>
    have hb:=blankS_le s q2
    have hst:scanF s (n+1) p out=_:=rfl
    rw [hst] at q1
    clear hst
    rw [scanF] at q1
    repeat (first|((with_reducible apply RS.callR true []);(iterate 3 exact rfl);exact fun H hH=>blank_tf _ _ (by omega) hs H (hg.1.of hn (hH.b rfl));exact Nm_free (by simp))|refine Y11 ?_|refine Y2d ?_|refine Y0 ?_|refine Y1n ?_|refine Y1 ?_)
    rcases hbl:blankS s p with ⟨q,ok⟩
    rw [hbl] at hb q1
    simp only at hb q1
    cases ok with
    | false =>
     repeat (first|refine Y4 ?_|refine Y2 ?_|refine Yi ?_|refine Y0 ?_|refine Y1t ?_|refine Y1 ?_|refine Y5 ?_)
     refine endsK_ret _ (.cons (.tmp rfl) (.cons (.cellN rfl rfl rfl (Nat.le_of_ble_eq_true rfl)) .nil)) ⟨rfl,?_⟩
     rw [q1];rfl
    | true =>
     simp only at q1
     repeat (first|refine Y4 ?_|refine Y1z ?_|refine Yr ?_|refine Y0 ?_|refine Y1q ?_|refine Y1 ?_|refine Y3 ?_)
     with_reducible apply W.condD
     exact rfl
     ·intro hq
      rw [if_pos hq] at q1
      cases out with
      | nil =>
       repeat (first|refine Yh ?_|refine Y23 ?_|refine Y4 ?_|refine Y2 ?_|refine Yi ?_|refine Y0 ?_|refine Y1t ?_|refine Y1 ?_)
       refine endsK_ret _ (.cons (.tmp rfl) (.cons (.cellN rfl rfl rfl (Nat.le_of_ble_eq_true rfl)) .nil)) ⟨rfl,?_⟩
       rw [q1]
       exact ⟨3,Nat.lt_succ_self 3,rfl,rfl⟩
      | cons t l =>
       repeat (first|refine Yh ?_|refine Y1k ?_|refine Y4 ?_|refine Y2 ?_|refine Yi ?_|refine Y0 ?_|refine Y1t ?_|refine Y1 ?_)
       refine endsK_ret _ (.cons (.tmp rfl) (.cons (.cellN rfl rfl rfl (Nat.le_of_ble_eq_true rfl)) .nil)) ⟨rfl,?_⟩
       rw [q1]
       refine ⟨3,Nat.lt_succ_self 3,?_,?_⟩
       ·show some (Blk.mk ⟨toksC (t::l)++tokC (endTok q)⟩ 56)=_
        rw [toksC_snoc]
       ·rw [List.length_append];rfl
     ·intro hq
      rw [if_neg hq] at q1
      repeat (first|((with_reducible apply RS.callR true []);(iterate 3 exact rfl);exact fun H hH=>one_tf _ _ (by omega) hs H ⟨hg.1.of hn (hH.b rfl),hg.2.of hn0 (hH.b rfl)⟩;exact Nm_free (by simp))|refine Y11 ?_|refine Y2d ?_|refine Y2 ?_|refine Y8 ?_|refine Y0 ?_|refine Y1q ?_|refine Y1 ?_)
      rcases ho:oneS s q with ⟨t,ok⟩
      rw [ho] at q1
      have hat:=oneS_at (s:=s) (p:=q) (by omega)
      rw [ho] at hat
      simp only at hat
      cases ok with
      | false =>
       simp only at q1
       repeat (first|refine Y4 ?_|refine Y2 ?_|refine Yi ?_|refine Y0 ?_|refine Y1t ?_|refine Y1 ?_|refine Y5 ?_)
       refine endsK_ret _ (.cons (.tmp rfl) (.cons (.cellN rfl rfl rfl (Nat.le_of_ble_eq_true rfl)) .nil)) ⟨rfl,?_⟩
       rw [q1];rfl
      | true =>
       have hat:=(hat rfl).size
       simp only at q1
       have hwr:IntKind.i64.wrap ((q:Int)+(t.text.size:Int))=((q+t.text.size:Nat):Int):=by
        rw [wrap64_fit (by omega) (by omega)];omega
       cases out with
       | nil =>
        repeat (first|refine Yh ?_|refine Y23 ?_|refine Yg ?_|((with_reducible apply RS.bin);iterate 5 exact rfl)|refine Yr ?_|refine Yl ?_|refine Yk ?_|refine Y0 ?_|refine Y1y ?_|refine Y1 ?_|refine Y3 ?_)
        refine roundK_n (n,q+t.text.size,[t]) [0,4] rfl rfl ⟨q1,by simp only;omega,by simp only;omega,by simp;omega⟩ (by simp only;omega) (FitL.mk ⟨rfl,rfl,rfl,?_,trivial⟩ rfl ⟨rfl,rfl,trivial⟩ rfl)
        show some (Value.int .i64 (IntKind.i64.wrap ((q:Int)+(t.text.size:Int))))=_
        rw [hwr]
       | cons u l =>
        repeat (first|refine Yh ?_|refine Y1k ?_|refine Yg ?_|((with_reducible apply RS.bin);iterate 5 exact rfl)|refine Yr ?_|refine Yl ?_|refine Yk ?_|refine Y0 ?_|refine Y1y ?_|refine Y1 ?_|refine Y3 ?_)
        refine roundK_n (n,q+t.text.size,(u::l)++[t]) [0,4] rfl rfl ⟨q1,by simp only;omega,by simp only;omega,?_⟩ (by simp only;omega) (FitL.mk ⟨rfl,rfl,?_,?_,trivial⟩ rfl ⟨rfl,?_,trivial⟩ rfl)
        ·simp only [List.length_append,List.length_cons,List.length_nil] at q4 ⊢;omega
        ·show some (Value.slice _ ((u::l).length+1) _)=some (Value.slice _ ((u::l)++[t]).length _)
         rw [List.length_append];rfl
        ·show some (Value.int .i64 (IntKind.i64.wrap ((q:Int)+(t.text.size:Int))))=_
         rw [hwr]
        ·show some (Blk.mk ⟨toksC (u::l)++tokC t⟩ 56)=some (Blk.mk ⟨toksC ((u::l)++[t])⟩ 56)
         rw [toksC_snoc]
 ·intro vs h' w hq hold htf
  obtain ⟨hbase,hq⟩:=hq
  cases hr:scanS s with
  | error e =>
   obtain ⟨k,p⟩:=e
   rw [hr] at hq
   simp only at hq
   rw [hq] at htf
   have h1:=htf (by simp)
   exact h1.trunc (by simp [scanV]) (fun i hi=>hold i hi hbase)
  | ok l =>
   rw [hr] at hq
   obtain ⟨i,h1,h2,h3⟩:=hq
   rw [h3] at htf
   have hlo:=w.lo i h1
   have hhi:=w.hi i h1
   have hm:=SH.m_loc w h1
   rw [h2] at hm
   rw [hbase] at hlo
   have hcell:∀ v∈toksC l,bnd 0 v:=by
    intro v hv
    unfold toksC at hv
    rw [List.mem_flatMap] at hv
    obtain ⟨t,_,hv⟩:=hv
    simp only [tokC,List.mem_cons,List.not_mem_nil,or_false] at hv
    rcases hv with rfl|rfl|rfl|rfl|rfl|rfl<;>simp
   refine TF.leave1 (j:=h'.π i) (htf ?_) hlo hm (fun k hk=>hold k hk hbase) (fun v hv=>bnd_mono (Nat.zero_le _) v (hcell v (by simpa using hv))) ?_ ?_
   ·have hden:h'.den.n=h'.π h'.k:=rfl
    simp [hden];omega
   ·simp [scanV]
   ·intro ρ ρ2 _ e1 e2
    simp [scanV,renAddr,renCap,e1,e2]
end Go.Proofs.YtbmmchaaiakanaaDoor
namespace Go.Proofs.YtbmmchaaiakanaaDoor
theorem bind_some' {α β:Type} {o:Option α} {f:α→Option β} {r:β} (h:(o >>= f)=some r):∃ x,o=some x∧f x=some r:=Option.bind_eq_some_iff.1 h
theorem take_iff {L:Nat→TokS} {st t:PS} {s:ByteArray} {b:Bool} (h:st.take L s=some (b,t)):(b=true∧st.fk=0∧st.is L s=true∧st.adv=some t)∨(b=false∧t=st∧¬ (st.fk=0∧st.is L s=true)):=by
 unfold PS.take at h
 split at h
 ·rename_i hc
  obtain ⟨u,h1,h2⟩:=Option.map_eq_some_iff.1 h
  injection h2 with h3 h4
  subst h3;subst h4
  exact .inl ⟨rfl,hc.1,hc.2,h1⟩
 ·rename_i hc
  injection h with h;injection h with h3 h4
  exact .inr ⟨h3.symm,h4.symm,hc⟩
theorem want_iff {L:Nat→TokS} {st t:PS} {s:ByteArray} (h:st.want L s=some t):∃ b u,st.take L s=some (b,u)∧((b=true∧t=u)∨(b=false∧t=u.fail L 11)):=by
 unfold PS.want at h
 obtain ⟨⟨b,u⟩,h1,h2⟩:=Option.map_eq_some_iff.1 h
 refine ⟨b,u,h1,?_⟩
 cases b with
 | true=>exact .inl ⟨rfl,h2.symm⟩
 | false=>exact .inr ⟨rfl,h2.symm⟩
theorem adv_iff {st t:PS} (h:st.adv=some t):st.at_ < 1000000∧t={ st with at_:=st.at_+1 }:=by
 unfold PS.adv at h
 split at h
 ·injection h with h;exact ⟨by assumption,h.symm⟩
 ·cases h
open Go.AH
attribute [local irreducible] W RS
def psB (L:List TokS) (tb cap:Nat) (st:PS):Blk:=⟨⟨psC L tb cap st⟩,66⟩
theorem tokN_get {L:List TokS} (hL:ToksOK L) (i:Nat):L[min i (L.length - 1)]?=some (tokN L i):=by
 have h:=hL.pos
 have hlt:min i (L.length - 1) < L.length:=by omega
 unfold tokN
 rw [List.getD_eq_getElem?_getD,List.getElem?_eq_getElem hlt];rfl
section
variable {L:List TokS} {tb cap pb:Nat} {h:Hp} {st:PS}
theorem par_set (p:ParAt L tb cap pb h st) (st':PS) {v:Value} (hv:bnd h.n v) (s:Sat Tryd.prog h):h.n≤(h.set pb (psB L tb cap st')).n∧bnd (h.set pb (psB L tb cap st')).n v∧∀ i b,(h.set pb (psB L tb cap st')).m i=some b→i < (h.set pb (psB L tb cap st')).n∧∀ u∈b.cells,bnd (h.set pb (psB L tb cap st')).n u:=by
 refine ⟨Nat.le_refl _,hv,fun i b hb=>?_⟩
 have hb:(if i=pb then some (psB L tb cap st') else h.m i)=some b:=hb
 by_cases e:i=pb
 ·rw [if_pos e] at hb
  injection hb with hb
  subst hb;subst e
  refine ⟨s.dom _ _ p.par,fun u hu=>?_⟩
  have h0:=s.bd _ _ p.par
  have hu:u∈psC L tb cap st':=by simpa [psB] using hu
  simp only [psC,List.mem_cons,List.not_mem_nil,or_false] at hu
  rcases hu with rfl|rfl|rfl|rfl|rfl|rfl
  ·exact h0 _ (by simp [psC])
  all_goals (show bnd h.n (.int _ _);simp)
 ·rw [if_neg e] at hb
  exact ⟨s.dom _ _ hb,s.bd _ _ hb⟩
theorem tokN_pos {L:List TokS} (hL:ToksOK L) {i:Nat}:∃ j,j < L.length∧j=min i (L.length - 1)∧L[j]?=some (tokN L i):=⟨_,by have:=hL.pos;omega,rfl,tokN_get hL i⟩
instance:FOne Tryd.prog 56 0 0:=⟨by kernel_rfl⟩
instance:FOne Tryd.prog 56 1 1:=⟨by kernel_rfl⟩
instance:FOne Tryd.prog 56 2 2:=⟨by kernel_rfl⟩
theorem ok_tf (p:ParAt L tb cap pb h st) {b:Bool} (hb:decide (st.fk=0)=b):TF Tryd.prog 10 ⟨[ptrC pb]⟩ h (.bool b) h:=by
 refine TF.exact (fn:=Tryd.f10) (c:=(Tryd.f10.body.getD .skip)) Tryd.func10 (by kernel_rfl) Tryd.ntmps10 (by kernel_rfl) (fun s0=>⟨Nat.le_refl _,by simp,fun i b hb=>⟨s0.dom i b hb,s0.bd i b hb⟩⟩) fun π s0=>?_
 conv=>arg 2;whnf
 have pn:=s0.dom _ _ p.par
 by_cases hf:st.fk=0
 ·obtain rfl:b=true:=by rw [← hb,decide_eq_true hf]
  repeat (first|refine Yp ?_|refine Yc ?_|refine Y6 ?_|refine Y0 ?_|refine Yz ?_|refine Y1 ?_)
  exact endsK_ret _ (.cons (.tmp rfl) .nil) fun B' a=>⟨rfl,a.up⟩
 ·obtain rfl:b=false:=by rw [← hb,decide_eq_false hf]
  repeat (first|refine Yp ?_|refine Yc ?_|refine Y7 ?_|refine Y0 ?_|refine Yz ?_|refine Y1 ?_)
  exact endsK_ret _ (.cons (.tmp rfl) .nil) fun B' a=>⟨rfl,a.up⟩
theorem ahead_tf (hL:ToksOK L) (p:ParAt L tb cap pb h st) (n:Nat) (hn:n≤10):TF Tryd.prog 15 ⟨[ptrC pb,.int .i64 n]⟩ h (.agg ⟨tokC (tokN L (st.at_+n))⟩) h:=by
 refine TF.exact (fn:=Tryd.f15) (c:=(Tryd.f15.body.getD .skip)) Tryd.func15 (by kernel_rfl) Tryd.ntmps15 (by kernel_rfl) (fun s0=>⟨Nat.le_refl _,by simp [tokC],fun i b hb=>⟨s0.dom i b hb,s0.bd i b hb⟩⟩) fun π s0=>?_
 conv=>arg 2;whnf
 have pn:=s0.dom _ _ p.par
 have tn:=s0.dom _ _ p.tok
 have hfa:=p.fits.a
 have hl0:=hL.pos
 have hl1:=hL.le
 obtain ⟨j,hjl,hj,hjt⟩:=tokN_pos hL (i:=st.at_+n)
 have htl:0+j * 6+6≤(toksC L).length:=by rw [toksC_length];omega
 repeat (first|refine Yp ?_|((with_reducible apply RS.minN);iterate 4 exact rfl)|((with_reducible apply RS.indexAddrS);(iterate 4 exact rfl);exact congrArg Int.ofNat hj.symm;exact hjl)|((with_reducible apply RS.loadNB);(iterate 3 exact rfl);exact p.tok;exact tn;exact htl;exact toksC_take hjt)|refine Y13 ?_|((with_reducible apply RS.sub1);(iterate 4 exact rfl);omega)|((with_reducible apply RS.addNat);(iterate 4 exact rfl);omega)|refine Y2 ?_|refine Y8 ?_|refine Y0 ?_|refine Yz ?_|refine Y1 ?_)
 exact endsK_ret _ (.cons (.cellN rfl rfl rfl (Nat.le_of_ble_eq_true rfl)) .nil) fun B' a=>⟨rfl,a.up⟩
theorem tok_tf (hL:ToksOK L) (p:ParAt L tb cap pb h st):TF Tryd.prog 11 ⟨[ptrC pb]⟩ h (.agg ⟨tokC (st.tok (tokN L))⟩) h:=by
 refine TF.exact (fn:=Tryd.f11) (c:=(Tryd.f11.body.getD .skip)) Tryd.func11 (by kernel_rfl) Tryd.ntmps11 (by kernel_rfl) (fun s0=>⟨Nat.le_refl _,by simp [tokC],fun i b hb=>⟨s0.dom i b hb,s0.bd i b hb⟩⟩) fun π s0=>?_
 conv=>arg 2;whnf
 repeat (first|((with_reducible apply (RS.callA (g0:=15)));(iterate 3 exact rfl);exact fun B' hB'=>ahead_tf hL (p.off ⟨hB'.le,hB'.old⟩ s0.dom) 0 (by decide))|refine Yq ?_|refine Y2 ?_|refine Y8 ?_|refine Y0 ?_|refine Yz ?_|refine Y1 ?_)
 exact endsK_ret _ (.cons (.cellN rfl rfl rfl (Nat.le_of_ble_eq_true rfl)) .nil) fun B' a=>⟨rfl,a.up⟩
theorem par_same (p:ParAt L tb cap pb h st) {i:Nat} {b:Blk} (hb:(h.set pb (psB L tb cap st)).m i=some b):h.m i=some b:=by
 have hb:(if i=pb then some (psB L tb cap st) else h.m i)=some b:=hb
 by_cases e:i=pb
 ·rw [if_pos e] at hb;rw [e,← hb];exact p.par
 ·rw [if_neg e] at hb;exact hb
theorem fail_tf (hL:ToksOK L) (p:ParAt L tb cap pb h st) (k:Nat):TF Tryd.prog 17 ⟨[ptrC pb,.int .i64 k]⟩ h (.tuple ⟨[]⟩) (h.set pb (psB L tb cap (st.fail (tokN L) k))):=by
 refine TF.exact (fn:=Tryd.f17) (c:=(Tryd.f17.body.getD .skip)) Tryd.func17 (by kernel_rfl) Tryd.ntmps17 (by kernel_rfl) (fun s0=>(par_set p _ (by simp) s0)) fun π s0=>?_
 conv=>arg 2;whnf
 have pn:=s0.dom _ _ p.par
 by_cases hf:st.fk=0
 ·have e:st.fail (tokN L) k={ st with fk:=k,fa:=(st.tok (tokN L)).pos }:=if_pos hf
  rw [e]
  repeat (first|refine Y1i ?_|refine Yv ?_|refine Y1d ?_|refine Y16 ?_|refine Yo ?_|refine Yi ?_|refine Y0 ?_|refine Y12 ?_|refine Y1 ?_|refine Y5 ?_)
  exact endsK_normal _ .nil fun B' a=>⟨rfl,a.up⟩
 ·have e:st.fail (tokN L) k=st:=if_neg hf
  rw [e]
  repeat (first|refine Y1p ?_|refine Yq ?_|refine Y0 ?_|refine Y1q ?_|refine Y1 ?_|refine Y3 ?_)
  exact endsK_normal _ .nil fun B' a=>⟨rfl,fun i b hb=>a.up i b (par_same p hb)⟩
theorem fault0_tf (p:ParAt L tb cap pb h st) (k q:Nat):TF Tryd.prog 23 ⟨[ptrC pb,.int .i64 k,.int .i64 q]⟩ h (.tuple ⟨[]⟩) (h.set pb (psB L tb cap (st.fail0 k q))):=by
 refine TF.exact (fn:=Tryd.f23) (c:=(Tryd.f23.body.getD .skip)) Tryd.func23 (by kernel_rfl) Tryd.ntmps23 (by kernel_rfl) (fun s0=>(par_set p _ (by simp) s0)) fun π s0=>?_
 conv=>arg 2;whnf
 have pn:=s0.dom _ _ p.par
 by_cases hf:st.fk=0
 ·have e:st.fail0 k q={ st with fk:=k,fa:=q }:=if_pos hf
  rw [e]
  repeat (first|refine Yv ?_|refine Y16 ?_|refine Yo ?_|refine Yi ?_|refine Y0 ?_|refine Y12 ?_|refine Y1 ?_|refine Y5 ?_)
  exact endsK_normal _ .nil fun B' a=>⟨rfl,a.up⟩
 ·have e:st.fail0 k q=st:=if_neg hf
  rw [e]
  repeat (first|refine Y1p ?_|refine Yq ?_|refine Y0 ?_|refine Y1q ?_|refine Y1 ?_|refine Y3 ?_)
  exact endsK_normal _ .nil fun B' a=>⟨rfl,fun i b hb=>a.up i b (par_same p hb)⟩
theorem is_tf (hL:ToksOK L) (p:ParAt L tb cap pb h st) (s:ByteArray) {b:Bool} (hb:st.is (tokN L) s=b):TF Tryd.prog 18 ⟨[ptrC pb,.string s]⟩ h (.bool b) h:=by
 refine TF.exact (fn:=Tryd.f18) (c:=(Tryd.f18.body.getD .skip)) Tryd.func18 (by kernel_rfl) Tryd.ntmps18 (by kernel_rfl) (fun s0=>⟨Nat.le_refl _,by simp,fun i b hb=>⟨s0.dom i b hb,s0.bd i b hb⟩⟩) fun π s0=>?_
 conv=>arg 2;whnf
 unfold PS.is wordy at hb
 by_cases h4:(st.tok (tokN L)).kind=4
 ·repeat (first|refine Y1d ?_|refine Yg ?_|refine Yb ?_|refine Y6 ?_|refine Y20 ?_|refine Yl ?_|refine Y2 ?_|refine Y8 ?_|refine Yn ?_|refine Y0 ?_|refine Yz ?_|refine Y1 ?_)
  refine endsK_ret _ (.cons (.tmp rfl) .nil) fun B' a=>⟨?_,a.up⟩
  rw [← hb,h4];rfl
 ·by_cases h2:(st.tok (tokN L)).kind=2
  ·repeat (first|refine Y1d ?_|refine Yg ?_|refine Yb ?_|refine Yd ?_|refine Y6 ?_|refine Y7 ?_|refine Y20 ?_|refine Yl ?_|refine Y2 ?_|refine Y8 ?_|refine Y0 ?_|refine Yz ?_|refine Y1 ?_)
   refine endsK_ret _ (.cons (.tmp rfl) .nil) fun B' a=>⟨?_,a.up⟩
   rw [← hb,h2];rfl
  ·repeat (first|refine Y1d ?_|refine Yg ?_|refine Yd ?_|refine Y7 ?_|refine Yl ?_|refine Y2 ?_|refine Y8 ?_|refine Yn ?_|refine Y0 ?_|refine Yz ?_|refine Y1 ?_)
   refine endsK_ret _ (.cons (.tmp rfl) .nil) fun B' a=>⟨?_,a.up⟩
   rw [← hb,show ((st.tok (tokN L)).kind == 4)=false by simpa using h4,show ((st.tok (tokN L)).kind == 2)=false by simpa using h2];rfl
theorem take_tf (hL:ToksOK L) (p:ParAt L tb cap pb h st) (s:ByteArray) {b:Bool} {t:PS} (ht:st.take (tokN L) s=some (b,t)):TF Tryd.prog 24 ⟨[ptrC pb,.string s]⟩ h (.bool b) (h.set pb (psB L tb cap t)):=by
 refine TF.exact (fn:=Tryd.f24) (c:=(Tryd.f24.body.getD .skip)) Tryd.func24 (by kernel_rfl) Tryd.ntmps24 (by kernel_rfl) (fun s0=>(par_set p _ (by simp) s0)) fun π s0=>?_
 conv=>arg 2;whnf
 have pn:=s0.dom _ _ p.par
 rcases take_iff ht with ⟨rfl,hf,his,hadv⟩|⟨rfl,rfl,hn⟩
 ·obtain ⟨ha,rfl⟩:=adv_iff hadv
  repeat (first|refine Yp ?_|refine Yv ?_|refine Y16 ?_|refine Y2o ?_|refine Yc ?_|refine Yb ?_|refine Ye ?_|refine Y0 ?_|refine Yy ?_|refine Y1 ?_|refine Y5 ?_)
  exact endsK_ret _ (.cons (.tmp rfl) .nil) fun B' a=>⟨rfl,a.up⟩
 ·by_cases hf:t.fk=0
  ·have his:t.is (tokN L) s=false:=by
    cases hc:t.is (tokN L) s with
    | false=>rfl
    | true=>exact absurd ⟨hf,hc⟩ hn
   repeat (first|refine Y16 ?_|refine Y2o ?_|refine Y4 ?_|refine Yb ?_|refine Y0 ?_|refine Y1a ?_|refine Y1 ?_|refine Y3 ?_)
   exact endsK_ret _ (.cons (.tmp rfl) .nil) fun B' a=>⟨rfl,fun i b hb=>a.up i b (par_same p hb)⟩
  ·repeat (first|refine Y1p ?_|refine Y4 ?_|refine Yd ?_|refine Yn ?_|refine Y0 ?_|refine Y1a ?_|refine Y1 ?_|refine Y3 ?_)
   exact endsK_ret _ (.cons (.tmp rfl) .nil) fun B' a=>⟨rfl,fun i b hb=>a.up i b (par_same p hb)⟩
def StepQ (L:List TokS) (tb cap pb:Nat) (h:Hp) (v0:Value) (t:PS) (v:Value) (h':Hp):Prop:=v=v0∧ParAt L tb cap pb h' t∧OffP pb h h'
theorem TF.step {g:FuncId} {args:List Value} {v:Value} {t:PS} (p:ParAt L tb cap pb h st) (f:t.Fits) (ht:TF Tryd.prog g ⟨args⟩ h v (h.set pb (psB L tb cap t))):EX Tryd.prog g args h (StepQ L tb cap pb h v t) :=
 (TF.ex ht).mono fun v1 h1 _ ⟨e1,e2⟩=>⟨e1,by rw [e2];exact p.set f,by rw [e2];exact OffP.set h _⟩
theorem take_ex (hL:ToksOK L) (p:ParAt L tb cap pb h st) (s:ByteArray) {b:Bool} {t:PS} (ht:st.take (tokN L) s=some (b,t)):EX Tryd.prog 24 [ptrC pb,.string s] h (StepQ L tb cap pb h (.bool b) t):=TF.step p (p.fits.take ht) (take_tf hL p s ht)
theorem fail_ex (hL:ToksOK L) (p:ParAt L tb cap pb h st) (k:Nat):EX Tryd.prog 17 [ptrC pb,.int .i64 k] h (StepQ L tb cap pb h (.tuple ⟨[]⟩) (st.fail (tokN L) k)):=TF.step p (p.fits.fail k) (fail_tf hL p k)
theorem fault0_ex (p:ParAt L tb cap pb h st) (k q:Nat):EX Tryd.prog 23 [ptrC pb,.int .i64 k,.int .i64 q] h (StepQ L tb cap pb h (.tuple ⟨[]⟩) (st.fail0 k q)):=TF.step p (p.fits.fail0 k q) (fault0_tf p k q)
end
theorem OffP.keep {pb:Nat} {G B:Hp} (o:OffP pb G B) {i:Nat} {b:Blk} (h:G.m i=some b) (hd:i < G.n) (hn:i≠pb):B.m i=some b:=by rw [o.2 i hd hn];exact h
theorem OffP.abs {P:Program} {pb:Nat} {h B B':Hp} {π:Nat→Nat} {k:Nat} {l:List (Nat × Option Blk)} (o:OffP pb h B) (a:Absb (P:=P) ⟨B,π,k,l⟩ B'):OffP pb h B':=o.trans (Old.off ⟨a.le,a.old⟩)
section
variable {L:List TokS} {tb cap pb:Nat} {h:Hp} {st:PS}
theorem ParAt.abs {P:Program} {B B':Hp} {π:Nat→Nat} {k:Nat} {l:List (Nat × Option Blk)} (p:ParAt L tb cap pb B st) (s:Sat P B) (a:Absb (P:=P) ⟨B,π,k,l⟩ B'):ParAt L tb cap pb B' st:=p.off ⟨a.le,a.old⟩ s.dom
theorem ParAt.stored {st':PS} {B':Hp} {π:Nat→Nat} {k:Nat} {l:List (Nat × Option Blk)} (p:ParAt L tb cap pb h st) (f:st'.Fits) (sp:Sat Tryd.prog h) (a:Absb (P:=Tryd.prog) ⟨h.set pb (psB L tb cap st'),π,k,l⟩ B'):ParAt L tb cap pb B' st'∧OffP pb h B' :=
 ⟨(p.set f).off ⟨a.le,a.old⟩ (fun i b hb=>(par_set p _ (v:=.bool true) (by simp) sp).2.2 i b hb |>.1),(OffP.set h _).trans (Old.off ⟨a.le,a.old⟩)⟩
instance:FOne Tryd.prog 56 0 0:=⟨by kernel_rfl⟩
theorem want_ex (hL:ToksOK L) (p:ParAt L tb cap pb h st) (s:ByteArray) {t:PS} (ht:st.want (tokN L) s=some t):EX Tryd.prog 26 [ptrC pb,.string s] h (StepQ L tb cap pb h (.tuple ⟨[]⟩) t):=by
 refine EX.intro (fn:=Tryd.f26) (c:=(Tryd.f26.body.getD .skip)) Tryd.func26 (by kernel_rfl) Tryd.ntmps26 (by kernel_rfl) fun π s0=>?_
 conv=>arg 2;whnf
 have sp:=s0
 have o:=OffP.refl pb h
 obtain ⟨b,u,htk,hc⟩:=want_iff ht
 rcases hc with ⟨rfl,rfl⟩|⟨rfl,rfl⟩
 ·repeat (first|((with_reducible apply (RS.callEx (g0:=24)));(iterate 3 exact rfl);intro B1 hB1;refine ⟨_,take_ex hL (p.abs sp hB1) _ htk,?_⟩;rintro v H1 π1 ⟨rfl,p',o'⟩ sp' hle1;have o:=(o.abs hB1).trans o';have p:=p';have sp:=sp')|refine Y1f ?_|refine Y0 ?_|refine Y1q ?_|refine Y1 ?_|refine Y3 ?_)
  exact endsK_normal _ .nil fun B' a=>⟨rfl,p.abs sp a,o.abs a⟩
 ·repeat (first|((with_reducible apply (RS.callEx (g0:=24)));(iterate 3 exact rfl);intro B1 hB1;refine ⟨_,take_ex hL (p.abs sp hB1) _ htk,?_⟩;rintro v H1 π1 ⟨rfl,p',o'⟩ sp' hle1;have o:=(o.abs hB1).trans o';have p:=p';have sp:=sp')|((with_reducible apply (RS.callEx (g0:=17)));(iterate 3 exact rfl);intro B1 hB1;refine ⟨_,fail_ex hL (p.abs sp hB1) 11,?_⟩;rintro v H1 π1 ⟨rfl,p',o'⟩ sp' hle1;have o:=(o.abs hB1).trans o';have p:=p';have sp:=sp')|refine Y1f ?_|refine Y0 ?_|refine Y12 ?_|refine Y1 ?_|refine Y5 ?_)
  exact endsK_normal _ .nil fun B' a=>⟨rfl,p.abs sp a,o.abs a⟩
theorem name_ex (hL:ToksOK L) (p:ParAt L tb cap pb h st) {x:ByteArray} {t:PS} (ht:st.name (tokN L)=some (x,t)):EX Tryd.prog 36 [ptrC pb] h (StepQ L tb cap pb h (.string x) t):=by
 refine EX.intro (fn:=Tryd.f36) (c:=(Tryd.f36.body.getD .skip)) Tryd.func36 (by kernel_rfl) Tryd.ntmps36 (by kernel_rfl) fun π s0=>?_
 conv=>arg 2;whnf
 have sp:=s0
 have o:=OffP.refl pb h
 have pn:=sp.dom _ _ p.par
 unfold PS.name at ht
 by_cases hf:st.fk=0
 ·by_cases hk:(st.tok (tokN L)).kind=1
  ·rw [if_pos ⟨hf,hk⟩] at ht
   obtain ⟨u,h1,h2⟩:=Option.map_eq_some_iff.1 ht
   injection h2 with h3 h4
   subst h3;subst h4
   obtain ⟨ha,rfl⟩:=adv_iff h1
   repeat (first|refine Yp ?_|refine Yv ?_|refine Y18 ?_|refine Y2w ?_|refine Y14 ?_|refine Yd ?_|refine Y7 ?_|refine Ye ?_|refine Yl ?_|refine Y2 ?_|refine Y8 ?_|refine Y0 ?_|refine Y1a ?_|refine Y1 ?_|refine Y3 ?_)
   exact endsK_ret _ (.cons (.tmp rfl) .nil) fun B' a=>⟨rfl,(p.set (p.fits.adv h1)).off ⟨a.le,a.old⟩ (fun i b hb=>(par_set p _ (v:=.bool true) (by simp) sp).2.2 i b hb |>.1),(OffP.set h _).trans (Old.off ⟨a.le,a.old⟩)⟩
  ·rw [if_neg (fun hc=>hk hc.2)] at ht
   injection ht with ht;injection ht with h3 h4
   subst h3;subst h4
   repeat (first|refine Y18 ?_|refine Y2w ?_|((with_reducible apply (RS.callEx (g0:=17)));(iterate 3 exact rfl);intro B1 hB1;refine ⟨_,fail_ex hL (p.abs sp hB1) 11,?_⟩;rintro v H1 π1 ⟨rfl,p',o'⟩ sp' hle1;have o:=(o.abs hB1).trans o';have p:=p';have sp:=sp')|refine Y1r ?_|refine Yd ?_|refine Y6 ?_|refine Yl ?_|refine Y2 ?_|refine Y8 ?_|refine Y0 ?_|refine Yy ?_|refine Y1 ?_|refine Y5 ?_)
   exact endsK_ret _ (.cons (.tmp rfl) .nil) fun B' a=>⟨rfl,p.abs sp a,o.abs a⟩
 ·rw [if_neg (fun hc=>hf hc.1)] at ht
  injection ht with ht;injection ht with h3 h4
  subst h3;subst h4
  repeat (first|refine Y18 ?_|((with_reducible apply (RS.callA (g0:=10)));(iterate 3 exact rfl);exact fun B' hB'=>ok_tf (p.abs sp hB') (decide_eq_false hf))|((with_reducible apply (RS.callEx (g0:=17)));(iterate 3 exact rfl);intro B1 hB1;refine ⟨_,fail_ex hL (p.abs sp hB1) 11,?_⟩;rintro v H1 π1 ⟨rfl,p',o'⟩ sp' hle1;have o:=(o.abs hB1).trans o';have p:=p';have sp:=sp')|refine Y11 ?_|refine Yb ?_|refine Y2 ?_|refine Y8 ?_|refine Yn ?_|refine Y0 ?_|refine Yy ?_|refine Y1 ?_|refine Y5 ?_)
  exact endsK_ret _ (.cons (.tmp rfl) .nil) fun B' a=>⟨rfl,p.abs sp a,o.abs a⟩
theorem down_iff {st t:PS} (ht:st.down (tokN L)=some t):∃ u:PS,u={ st with deep:=st.deep+1 }∧u.Fits=u.Fits∧st.deep < 1000000∧((60 < u.deep∧t=u.fail (tokN L) 3)∨(¬ 60 < u.deep∧t=u)):=by
 unfold PS.down at ht
 split at ht
 ·rename_i hd
  injection ht with ht
  refine ⟨_,rfl,rfl,hd,?_⟩
  split at ht
  ·rename_i h6;exact .inl ⟨h6,ht.symm⟩
  ·rename_i h6;exact .inr ⟨h6,ht.symm⟩
 ·cases ht
theorem down_ex (hL:ToksOK L) (p:ParAt L tb cap pb h st) {t:PS} (ht:st.down (tokN L)=some t):EX Tryd.prog 43 [ptrC pb] h (StepQ L tb cap pb h (.bool (decide (t.fk=0))) t):=by
 refine EX.intro (fn:=Tryd.f43) (c:=(Tryd.f43.body.getD .skip)) Tryd.func43 (by kernel_rfl) Tryd.ntmps43 (by kernel_rfl) fun π s0=>?_
 conv=>arg 2;whnf
 have sp:=s0
 have pn:=sp.dom _ _ p.par
 have hfd:=p.fits.d
 obtain ⟨u,hu,_,hd,hc⟩:=down_iff ht
 have hub:u.Fits:=by rw [hu];exact ⟨p.fits.a,by show st.deep+1≤_;omega,p.fits.n⟩
 ((with_reducible apply W.seq);repeat (first|refine Ys ?_|refine Y0 ?_|refine Y1 ?_|refine Ym ?_))
 ((with_reducible apply W.seq);repeat (fail))
 ((with_reducible apply W.seq);repeat (first|refine Yp ?_|refine Yv ?_|refine Yo ?_|refine Ye ?_|refine Y0 ?_|refine Y1 ?_|refine Ym ?_))
 refine W.absorbX fun B π1 a=>?_
 obtain ⟨p,o⟩:=p.stored (st':=u) hub sp (by rw [hu];exact a)
 have sp:=a.sat
 have pn:=sp.dom _ _ p.par
 clear hu
 rcases hc with ⟨h6,rfl⟩|⟨h6,rfl⟩
 ·repeat (first|refine Yp ?_|((with_reducible apply (RS.callEx (g0:=17)));(iterate 3 exact rfl);intro B1 hB1;refine ⟨_,fail_ex hL (p.abs sp hB1) 3,?_⟩;rintro v H1 π1 ⟨rfl,p',o'⟩ sp' hle1;have o:=(o.abs hB1).trans o';have p:=p';have sp:=sp')|refine Y33 ?_|refine Yc ?_|refine Y6 ?_|refine Y0 ?_|refine Yz ?_|refine Y1 ?_|refine Y5 ?_)
  exact endsK_ret _ (.cons (.tmp rfl) .nil) fun B' a=>⟨rfl,p.abs sp a,o.abs a⟩
 ·repeat (first|refine Yp ?_|refine Y33 ?_|refine Yc ?_|refine Y7 ?_|refine Y0 ?_|refine Y1a ?_|refine Y1 ?_|refine Y3 ?_)
  exact endsK_ret _ (.cons (.tmp rfl) .nil) fun B' a=>⟨rfl,p.abs sp a,o.abs a⟩
theorem up_iff {st t:PS} (ht:st.up=some t):0 < st.deep∧t={ st with deep:=st.deep - 1 }:=by
 unfold PS.up at ht
 split at ht
 ·injection ht with ht;exact ⟨by assumption,ht.symm⟩
 ·cases ht
theorem up_exd (p:ParAt L tb cap pb h st) {t:PS} (ht:st.up=some t):EXD Tryd.prog 42 [ptrC pb] h (fun h'=>ParAt L tb cap pb h' t∧OffP pb h h'):=by
 refine EXD.intro (fn:=Tryd.f42) (c:=(Tryd.f42.body.getD .skip)) Tryd.func42 (by kernel_rfl) Tryd.ntmps42 (by kernel_rfl) fun π s0=>?_
 conv=>arg 2;whnf
 have sp:=s0
 have pn:=sp.dom _ _ p.par
 obtain ⟨hd,hu⟩:=up_iff ht
 have hdd:=p.fits.d
 repeat (first|refine Yp ?_|refine Yv ?_|refine Yo ?_|((with_reducible apply RS.sub1);(iterate 4 exact rfl);omega)|refine Y0 ?_|refine Y1 ?_)
 exact endsK_normal _ .nil fun B' a=>p.stored (st':=t) (p.fits.up ht) sp (by rw [hu];exact a)
theorem node_ex (hL:ToksOK L) (p:ParAt L tb cap pb h st) {t:PS} (ht:st.node (tokN L)=some t):EX Tryd.prog 41 [ptrC pb] h (StepQ L tb cap pb h (.tuple ⟨[]⟩) t):=by
 refine EX.intro (fn:=Tryd.f41) (c:=(Tryd.f41.body.getD .skip)) Tryd.func41 (by kernel_rfl) Tryd.ntmps41 (by kernel_rfl) fun π s0=>?_
 conv=>arg 2;whnf
 have sp:=s0
 have pn:=sp.dom _ _ p.par
 have hfd:=p.fits.n
 unfold PS.node at ht
 split at ht
 case isFalse=>cases ht
 rename_i hd
 injection ht with ht
 obtain ⟨u,hu⟩:∃ u:PS,u={ st with nodes:=st.nodes+1 }:=⟨_,rfl⟩
 rw [← hu] at ht
 have hub:u.Fits:=by rw [hu];exact ⟨p.fits.a,p.fits.d,by show st.nodes+1≤_;omega⟩
 have hun:u.nodes=st.nodes+1:=by rw [hu]
 ((with_reducible apply W.seq);repeat (first|refine Yp ?_|refine Yv ?_|refine Yo ?_|refine Ye ?_|refine Y0 ?_|refine Y1 ?_|refine Ym ?_))
 refine W.absorbX fun B π1 a=>?_
 obtain ⟨p,o⟩:=p.stored (st':=u) hub sp (by rw [hu];exact a)
 have sp:=a.sat
 have pn:=sp.dom _ _ p.par
 by_cases h6:6000 < st.nodes+1
 ·rw [if_pos h6] at ht
  subst ht
  repeat (first|refine Yp ?_|((with_reducible apply (RS.callEx (g0:=17)));(iterate 3 exact rfl);intro B1 hB1;refine ⟨_,fail_ex hL (p.abs sp hB1) 2,?_⟩;rintro v H1 π1 ⟨rfl,p',o'⟩ sp' hle1;have o:=(o.abs hB1).trans o';have p:=p';have sp:=sp')|refine Yo ?_|refine Y6 ?_|refine Y0 ?_|refine Y12 ?_|refine Y1 ?_|refine Y5 ?_)
  exact endsK_normal _ .nil fun B' a=>⟨rfl,p.abs sp a,o.abs a⟩
 ·rw [if_neg h6] at ht
  subst ht
  repeat (first|refine Yp ?_|refine Yo ?_|refine Y7 ?_|refine Y0 ?_|refine Y1q ?_|refine Y1 ?_|refine Y3 ?_)
  exact endsK_normal _ .nil fun B' a=>⟨rfl,p.abs sp a,o.abs a⟩
def NewE (L:List TokS) (tb cap pb:Nat) (h:Hp) (cs:List Value) (t:PS) (v:Value) (h':Hp):Prop:=∃ b,v=ptrC b∧h.n≤b∧h'.m b=some ⟨⟨cs⟩,59⟩∧ParAt L tb cap pb h' t∧OffP pb h h'
theorem expr_ex (hL:ToksOK L) (p:ParAt L tb cap pb h st) (op pos:Nat) (text:ByteArray) (A:Option Addr) (n c:Nat) {t:PS} (ht:st.node (tokN L)=some t):EX Tryd.prog 57 [ptrC pb,.int .i64 op,.int .i64 pos,.string text,.slice A n c] h (NewE L tb cap pb h (exprC op pos text zeroTok zeroType none 0 A n c) t):=by
 refine EX.intro (fn:=Tryd.f57) (c:=(Tryd.f57.body.getD .skip)) Tryd.func57 (by kernel_rfl) Tryd.ntmps57 (by kernel_rfl) fun π s0=>?_
 conv=>arg 2;whnf
 have sp:=s0
 have o:=OffP.refl pb h
 repeat (first|((with_reducible apply (RS.callEx (g0:=41)));(iterate 3 exact rfl);intro B1 hB1;refine ⟨_,node_ex hL (p.abs sp hB1) ht,?_⟩;rintro v H1 π1 ⟨rfl,p',o'⟩ sp' hle1;have o:=(o.abs hB1).trans o';have p:=p';have sp:=sp')|refine Y2p ?_|refine Yi ?_|refine Y0 ?_|refine Yz ?_|refine Y1 ?_)
 exact endsK_ret _ (.cons (.tmp rfl) .nil) fun B' a=>⟨_,rfl,Nat.le_trans o.1 (a.lo 0 (Nat.lt_succ_self 0)),a.loc 0 (Nat.lt_succ_self 0),p.abs sp a,o.abs a⟩
theorem typed_tf (hL:ToksOK L) (p:ParAt L tb cap pb h st) {b:Bool} (hb:typedT (st.tok (tokN L))=b):TF Tryd.prog 16 ⟨[ptrC pb]⟩ h (.bool b) h:=by
 refine TF.exact (fn:=Tryd.f16) (c:=(Tryd.f16.body.getD .skip)) Tryd.func16 (by kernel_rfl) Tryd.ntmps16 (by kernel_rfl) (fun s0=>⟨Nat.le_refl _,by simp,fun i b hb=>⟨s0.dom i b hb,s0.bd i b hb⟩⟩) fun π s0=>?_
 conv=>arg 2;whnf
 have sp:=s0
 unfold typedT at hb
 by_cases hk:(st.tok (tokN L)).kind=2
 ·have hb:typeWords.any (fun w=>eqB (st.tok (tokN L)).text w)=b:=by rw [← hb,hk];rfl
  simp only [typeWords,List.any_cons,List.any_nil,Bool.or_false] at hb
  repeat' (first|refine Y1i ?_|refine Y18 ?_|refine Y4 ?_|refine Y7 ?_|refine Y20 ?_|refine Y0 ?_|refine Yw ?_|refine Y1 ?_|refine Y5 ?_|refine Y3 ?_|((refine YD ?_ ?_)<;>intro _)|((refine YG ?_ ?_)<;>intro _)|((refine YC ?_ ?_)<;>intro _)|((refine YN ?_ ?_)<;>intro _))
  all_goals
   refine endsK_ret _ (.cons (.tmp rfl) .nil) fun B' a=>⟨?_,a.up⟩
   rw [← hb]
   show Value.bool _=_
   congr 1
   symm
   simp [eqB,bChar,bShort,bInt,bLong,bUns,bSig,bVoid,bStruct,bSecret,bPublic] at *
   simp [*]
 ·have hb:false=b:=by rw [← hb,show ((st.tok (tokN L)).kind == 2)=false by simpa using hk];rfl
  subst hb
  repeat (first|refine Y1i ?_|refine Y18 ?_|refine Y4 ?_|refine Y6 ?_|refine Y0 ?_|refine Yy ?_|refine Y1 ?_|refine Y5 ?_)
  exact endsK_ret _ (.cons (.tmp rfl) .nil) fun B' a=>⟨rfl,a.up⟩
theorem level_tf (s:ByteArray) (h:Hp):TF Tryd.prog 64 ⟨[.string s]⟩ h (.int .i64 (levelS s)) h:=by
 refine TF.exact (fn:=Tryd.f64) (c:=(Tryd.f64.body.getD .skip)) Tryd.func64 (by kernel_rfl) Tryd.ntmps64 (by kernel_rfl) (fun s0=>⟨Nat.le_refl _,by simp,fun i b hb=>⟨s0.dom i b hb,s0.bd i b hb⟩⟩) fun π s0=>?_
 conv=>arg 2;whnf
 repeat' (first|refine Y4 ?_|refine Y20 ?_|refine Y0 ?_|refine Yw ?_|refine Y1 ?_|refine Y5 ?_|((refine YD ?_ ?_)<;>intro _)|((refine YG ?_ ?_)<;>intro _)|((refine YC ?_ ?_)<;>intro _)|((refine YN ?_ ?_)<;>intro _))
 all_goals
  refine endsK_ret _ (.cons (.tmp rfl) .nil) fun B' a=>⟨?_,a.up⟩
  show Value.int .i64 _=_
  congr 1
  symm
  simp [levelS,eqB,b1,b2] at *
  simp [*]
end
end Go.Proofs.YtbmmchaaiakanaaDoor
