/-
  What the functions that the law reaches compute,told by plain data;it holds of programs that pass the check of right form and are light.
-/
import Derived.Test.YtgpigfcagppohaaGreatDoorR2
import Derived.Test.YtgpigfcagppohaaGreatDoorR3
import Derived.Test.YtgpigfcagppohaaGreatDoorR4
import Derived.Test.YtgpigfcagppohaaGreatDoorS2
set_option linter.unusedVariables false
set_option linter.unusedSimpArgs false
namespace Go.Proofs.YtgpigfcagppohaaGreatDoor
open Go.AH
def Old (h h':Hp):Prop:=h.n≤h'.n∧∀ i,i < h.n→h'.m i=h.m i
def OffP (pb:Nat) (h h':Hp):Prop:=h.n≤h'.n∧∀ i,i < h.n→i≠pb→h'.m i=h.m i
theorem OffP.refl (pb:Nat) (h:Hp):OffP pb h h:=⟨Nat.le_refl _,fun _ _ _=>rfl⟩
theorem OffP.trans {pb:Nat} {a b c:Hp} (h1:OffP pb a b) (h2:OffP pb b c):OffP pb a c:=⟨Nat.le_trans h1.1 h2.1,fun i hi hn=>by rw [h2.2 i (Nat.lt_of_lt_of_le hi h1.1) hn,h1.2 i hi hn]⟩
theorem OffP.set {pb:Nat} (h:Hp) (b:Blk):OffP pb h (h.set pb b):=⟨Nat.le_refl _,fun i _ hn=>by show (if i=pb then some b else h.m i)=_;rw [if_neg hn]⟩
theorem Old.off {pb:Nat} {a b:Hp} (h:Old a b):OffP pb a b:=⟨h.1,fun i hi _=>h.2 i hi⟩
theorem Old.trans {a b c:Hp} (h1:Old a b) (h2:Old b c):Old a c:=⟨Nat.le_trans h1.1 h2.1,fun i hi=>by rw [h2.2 i (Nat.lt_of_lt_of_le hi h1.1),h1.2 i hi]⟩
def tokC (t:TokS):List Value:=[.int .i64 t.kind,.string t.text,.int .i64 t.pos,.int .u64 t.value,.bool t.uns,.bool t.long]
def toksC (l:List TokS):List Value:=l.flatMap tokC
theorem toksC_length (l:List TokS):(toksC l).length=l.length * 6:=by
 induction l with
 | nil=>rfl
 | cons t l ih=>simp only [toksC,List.flatMap_cons,List.length_append,List.length_cons] at ih ⊢;rw [ih];simp [tokC];omega
theorem toksC_take:∀ {L:List TokS} {i:Nat} {t:TokS},L[i]?=some t→takeV (0+i * 6) 6 (toksC L)=tokC t:=by
 intro L
 induction L with
 | nil=>intro i t h;simp at h
 | cons a L ih =>
  intro i t h
  rw [takeV_eq]
  cases i with
  | zero=>simp at h;subst h;simp [toksC,tokC]
  | succ i =>
   have:=ih (i:=i) (t:=t) (by simpa using h)
   rw [takeV_eq] at this
   rw [show 0+(i+1) * 6=(0+i * 6)+6 by omega,← List.drop_drop]
   simpa [toksC,tokC] using this
def psC (L:List TokS) (tb cap:Nat) (st:PS):List Value:=[.slice (some ⟨tb,0,none⟩) L.length cap,.int .i64 st.at_,.int .i64 st.deep,.int .i64 st.nodes,.int .i64 st.fk,.int .i64 st.fa]
structure PS.Fits (st:PS):Prop where
 a:st.at_≤1000000
 d:st.deep≤1000000
 n:st.nodes≤1000000
structure ParAt (L:List TokS) (tb cap pb:Nat) (h:Hp) (st:PS):Prop where
 tok:h.m tb=some ⟨⟨toksC L⟩,102⟩
 par:h.m pb=some ⟨⟨psC L tb cap st⟩,95⟩
 fits:st.Fits
 rw:rwM≤pb
 ne:tb≠pb
structure ToksOK (L:List TokS):Prop where
 pos:0 < L.length
 le:L.length≤1000000
theorem ParAt.off {L:List TokS} {tb cap pb:Nat} {h h':Hp} {st:PS} (p:ParAt L tb cap pb h st) (o:Old h h') (hd:∀ i b,h.m i=some b→i < h.n):ParAt L tb cap pb h' st :=
 ⟨by rw [o.2 _ (hd _ _ p.tok)];exact p.tok,by rw [o.2 _ (hd _ _ p.par)];exact p.par,p.fits,p.rw,p.ne⟩
theorem ParAt.set {L:List TokS} {tb cap pb:Nat} {h:Hp} {st st':PS} (p:ParAt L tb cap pb h st) (f:st'.Fits):ParAt L tb cap pb (h.set pb ⟨⟨psC L tb cap st'⟩,95⟩) st' :=
 ⟨by show (if tb=pb then _ else h.m tb)=_;rw [if_neg p.ne];exact p.tok,by show (if pb=pb then _ else _)=_;rw [if_pos rfl],f,p.rw,p.ne⟩
theorem PS.Fits.fail {L:Nat→TokS} {st:PS} (f:st.Fits) (k:Nat):(st.fail L k).Fits:=by unfold PS.fail;split<;>exact ⟨f.a,f.d,f.n⟩
theorem PS.Fits.fail0 {st:PS} (f:st.Fits) (k p:Nat):(st.fail0 k p).Fits:=by unfold PS.fail0;split<;>exact ⟨f.a,f.d,f.n⟩
theorem PS.Fits.adv {st t:PS} (f:st.Fits) (h:st.adv=some t):t.Fits:=by
 unfold PS.adv at h
 split at h
 ·injection h with h;subst h;exact ⟨by show st.at_+1≤_;omega,f.d,f.n⟩
 ·cases h
theorem PS.Fits.take {L:Nat→TokS} {st t:PS} {s:ByteArray} {b:Bool} (f:st.Fits) (h:st.take L s=some (b,t)):t.Fits:=by
 unfold PS.take at h
 split at h
 ·obtain ⟨u,h1,h2⟩:=Option.map_eq_some_iff.1 h
  injection h2 with _ h2
  subst h2;exact f.adv h1
 ·injection h with h;injection h with _ h;subst h;exact f
theorem PS.Fits.up {st t:PS} (f:st.Fits) (h:st.up=some t):t.Fits:=by
 unfold PS.up at h
 split at h
 ·injection h with h;subst h;have:=f.d;exact ⟨f.a,by show st.deep - 1≤_;omega,f.n⟩
 ·cases h
def specC (s:SpecS):List Value:=[.bool s.secret,.string s.word,.bool s.uns,.string s.strct,.int .i64 s.pos]
def typeC (t:TypeS) (A:Option Addr) (c:Nat):List Value:=specC t.spec++[.int .i64 t.stars,.slice A t.dims.length c,.bool false,.slice none 0 0]
def declC (d:DeclS) (A:Option Addr) (c:Nat):List Value:=typeC d.ty A c++[.string d.name,.int .i64 d.pos]
def RowAt (h:Hp) (lo:Nat) (e:TypeId) (A:Option Addr) (cs:List Value):Prop:=(cs=[]∧A=none)∨∃ b,A=some ⟨b,0,none⟩∧lo≤b∧h.m b=some ⟨⟨cs⟩,e⟩
def dimsC (l:List Nat):List Value:=l.map fun (n:Nat)=>Value.int .i64 (n:Int)
def ptrC (p:Nat):Value:=.pointer (some ⟨p,0,none⟩)
def exprC (op pos:Nat) (text:ByteArray) (tok:TokS) (ty:TypeS) (D:Option Addr) (d:Nat) (A:Option Addr) (n c:Nat):List Value:=[.int .i64 op,.int .i64 pos,.string text]++tokC tok++typeC ty D d++[.slice A n c]
inductive ExprAt (h:Hp) (lo:Nat):Nat→ExprS→Prop
 | mk {b op pos:Nat} {text:ByteArray} {tok:TokS} {ty:TypeS} {kids:List ExprS} {D:Option Addr} {d:Nat} {A:Option Addr} {c:Nat} {ps:List Nat} (h0:lo≤b) (hm:h.m b=some ⟨⟨exprC op pos text tok ty D d A kids.length c⟩,232⟩)
  (hd:RowAt h lo 3 D (dimsC ty.dims)) (hk:RowAt h lo 181 A (ps.map ptrC)) (hl:ps.length=kids.length) (hr:∀ (i p:Nat) (k:ExprS),ps[i]?=some p→kids[i]?=some k→ExprAt h lo p k):ExprAt h lo b (.mk op pos text tok ty kids)
def Upto (lo:Nat) (h h':Hp):Prop:=∀ i,lo≤i→∀ b,h.m i=some b→h'.m i=some b
theorem RowAt.up {h h':Hp} {lo lo':Nat} {e:TypeId} {A:Option Addr} {cs:List Value} (r:RowAt h lo e A cs) (hu:Upto lo h h') (hl:lo'≤lo):RowAt h' lo' e A cs:=by
 rcases r with ⟨h1,h2⟩|⟨b,h1,h2,h3⟩
 ·exact .inl ⟨h1,h2⟩
 ·exact .inr ⟨b,h1,Nat.le_trans hl h2,hu _ h2 _ h3⟩
theorem ExprAt.up {h h':Hp} {lo lo':Nat} (hu:Upto lo h h') (hl:lo'≤lo):∀ {b:Nat} {e:ExprS},ExprAt h lo b e→ExprAt h' lo' b e:=by
 intro b e he
 induction he with
 | mk h0 hm hd hk hlen hr ih=>exact .mk (Nat.le_trans hl h0) (hu _ h0 _ hm) (hd.up hu hl) (hk.up hu hl) hlen ih
def EOpt (h:Hp) (lo:Nat):Value→Option ExprS→Prop
 | v,none=>v=.pointer none
 | v,some e=>∃ b,v=ptrC b∧ExprAt h lo b e
theorem EOpt.up {h h':Hp} {lo lo':Nat} (hu:Upto lo h h') (hl:lo'≤lo) {v:Value} {e:Option ExprS} (he:EOpt h lo v e):EOpt h' lo' v e:=by
 cases e with
 | none=>exact he
 | some e=>obtain ⟨b,h1,h2⟩:=he;exact ⟨b,h1,h2.up hu hl⟩
def stmtC (kind pos:Nat) (d:DeclS) (D:Option Addr) (c:Nat) (E:Value) (A:Option Addr) (n k:Nat):List Value:=[.int .i64 kind,.int .i64 pos]++declC d D c++[E,.pointer none,.slice A n k,.slice none 0 0]
inductive StmtAt (h:Hp) (lo:Nat):Nat→StmtS→Prop
 | mk {b kind pos:Nat} {dc:DeclS} {e:Option ExprS} {kids:List StmtS} {D:Option Addr} {d:Nat} {E:Value} {A:Option Addr} {c:Nat} {ps:List Nat} (h0:lo≤b) (hm:h.m b=some ⟨⟨stmtC kind pos dc D d E A kids.length c⟩,191⟩)
  (hd:RowAt h lo 3 D (dimsC dc.ty.dims)) (he:EOpt h lo E e) (hk:RowAt h lo 128 A (ps.map ptrC)) (hl:ps.length=kids.length) (hr:∀ (i p:Nat) (k:StmtS),ps[i]?=some p→kids[i]?=some k→StmtAt h lo p k):StmtAt h lo b (.mk kind pos dc e kids)
theorem StmtAt.up {h h':Hp} {lo lo':Nat} (hu:Upto lo h h') (hl:lo'≤lo):∀ {b:Nat} {e:StmtS},StmtAt h lo b e→StmtAt h' lo' b e:=by
 intro b e he
 induction he with
 | mk h0 hm hd he hk hlen hr ih=>exact .mk (Nat.le_trans hl h0) (hu _ h0 _ hm) (hd.up hu hl) (he.up hu hl) (hk.up hu hl) hlen ih
theorem OffP.upto {pb lo:Nat} {h h':Hp} (o:OffP pb h h') (hd:∀ i b,h.m i=some b→i < h.n) (hlo:pb < lo):Upto lo h h':=fun i hi b hb=>by rw [o.2 i (hd i b hb) (by omega)];exact hb
def intC (l:LfS):List Value:=[.int .i64 1,.int .i64 l.size,.bool l.sg,.bool l.sec,.pointer none,.int .i64 0,.int .i64 0,.slice none 0 0,.pointer none]
def tyC:TyS→Nat→List Value
 | .void,_=>[.int .i64 0,.int .i64 0,.bool false,.bool false,.pointer none,.int .i64 0,.int .i64 0,.slice none 0 0,.pointer none]
 | .int l,_=>intC l
 | .ptr _,b=>[.int .i64 2,.int .i64 8,.bool false,.bool false,ptrC b,.int .i64 0,.int .i64 0,.slice none 0 0,.pointer none]
 | .arr _ n,b=>[.int .i64 3,.int .i64 0,.bool false,.bool false,ptrC b,.int .i64 n,.int .i64 0,.slice none 0 0,.pointer none]
def TyE (h:Hp):TyS→Nat→Prop
 | .ptr l,b=>h.m b=some ⟨⟨intC l⟩,71⟩
 | .arr l _,b=>h.m b=some ⟨⟨intC l⟩,71⟩
 | _,_=>True
def nodeC (op pos:Nat) (ty:TyS) (tb:Nat) (hid:Bool) (text:ByteArray) (num:Int) (ref:Nat) (A:Option Addr) (n c:Nat):List Value :=
 [.int .i64 op,.int .i64 pos]++tyC ty tb++tyC .void 0++[.bool hid,.string text,.int .i64 num,.int .i64 ref,.slice A n c]
inductive NodeT (h:Hp) (lo:Nat):Nat→NodeS→Prop
 | mk {b op pos:Nat} {ty:TyS} {tb:Nat} {hid:Bool} {text:ByteArray} {num:Int} {ref:Nat} {kids:List NodeS} {A:Option Addr} {c:Nat} {ps:List Nat} (h0:lo≤b) (hm:h.m b=some ⟨⟨nodeC op pos ty tb hid text num ref A kids.length c⟩,225⟩)
  (hk:RowAt h lo 192 A (ps.map ptrC)) (hl:ps.length=kids.length) (hr:∀ (i p:Nat) (k:NodeS),ps[i]?=some p→kids[i]?=some k→NodeT h lo p k):NodeT h lo b (.mk op pos ty hid text num ref kids)
structure NodeAt (h:Hp) (lo b:Nat) (e:NodeS):Prop where
 t:NodeT h lo b e
 c:∃ (tb:Nat) (text:ByteArray) (num:Int) (ref:Nat) (A:Option Addr) (n c:Nat),h.m b=some ⟨⟨nodeC e.op e.pos e.ty tb e.hid text num ref A n c⟩,225⟩∧TyE h e.ty tb
def keptC (e:TypeId):Bool:=!(Nat.beq e 66 || Nat.beq e 53 || Nat.beq e 74 || Nat.beq e 134 || Nat.beq e 186)
def KeptX (h h':Hp):Prop:=∀ i c,h.m i=some c→keptC c.elem=true→h'.m i=some c
theorem KeptX.trans {a b c:Hp} (h1:KeptX a b) (h2:KeptX b c):KeptX a c:=fun i x hx hk=>h2 i x (h1 i x hx hk) hk
theorem KeptX.refl (a:Hp):KeptX a a:=fun _ _ h _=>h
theorem KeptX.of {h h':Hp} (hu:∀ i c,h.m i=some c→h'.m i=some c):KeptX h h':=fun i c hc _=>hu i c hc
theorem RowAt.upX {h h':Hp} {lo:Nat} {e:TypeId} {A:Option Addr} {cs:List Value} (r:RowAt h lo e A cs) (hu:KeptX h h') (he:keptC e=true):RowAt h' 0 e A cs:=by
 rcases r with ⟨h1,h2⟩|⟨b,h1,h2,h3⟩
 ·exact .inl ⟨h1,h2⟩
 ·exact .inr ⟨b,h1,Nat.zero_le _,hu _ _ h3 he⟩
theorem ExprAt.upX {h h':Hp} {lo:Nat} (hu:KeptX h h'):∀ {b:Nat} {e:ExprS},ExprAt h lo b e→ExprAt h' 0 b e:=by
 intro b e he
 induction he with
 | mk h0 hm hd hk hlen hr ih=>exact .mk (Nat.zero_le _) (hu _ _ hm rfl) (hd.upX hu rfl) (hk.upX hu rfl) hlen ih
theorem StmtAt.upX {h h':Hp} {lo:Nat} (hu:KeptX h h'):∀ {b:Nat} {e:StmtS},StmtAt h lo b e→StmtAt h' 0 b e:=by
 intro b e he
 induction he with
 | mk h0 hm hd hE hk hlen hr ih =>
  refine .mk (Nat.zero_le _) (hu _ _ hm rfl) (hd.upX hu rfl) ?_ (hk.upX hu rfl) hlen ih
  rename_i e _ _ _ _ _ _ _
  cases e with
  | none=>exact hE
  | some e=>obtain ⟨b,h1,h2⟩:=hE;exact ⟨b,h1,h2.upX hu⟩
theorem TyE.up {h h':Hp} (hu:KeptX h h') {t:TyS} {b:Nat} (ht:TyE h t b):TyE h' t b:=by
 cases t with
 | void=>trivial
 | int l=>trivial
 | ptr l=>exact hu _ _ (show h.m b=_ from ht) rfl
 | arr l n=>exact hu _ _ (show h.m b=_ from ht) rfl
theorem NodeT.upW {h h':Hp} {lo lo':Nat} (hu:∀ i c,h.m i=some c→lo≤i→(c.elem=225∨c.elem=192)→h'.m i=some c) (hl:lo'≤lo):∀ {b:Nat} {e:NodeS},NodeT h lo b e→NodeT h' lo' b e:=by
 intro b e he
 induction he with
 | mk h0 hm hk hlen hr ih =>
  refine .mk (Nat.le_trans hl h0) (hu _ _ hm h0 (.inl rfl)) ?_ hlen ih
  rcases hk with ⟨k1,k2⟩|⟨kb,k1,k2,k3⟩
  ·exact .inl ⟨k1,k2⟩
  ·exact .inr ⟨kb,k1,Nat.le_trans hl k2,hu _ _ k3 k2 (.inr rfl)⟩
theorem NodeT.lo {h:Hp} {lo b:Nat} {e:NodeS} (he:NodeT h lo b e):lo≤b:=by
 cases he with
 | mk h0 hm hk hlen hr=>exact h0
theorem NodeAt.upW {h h':Hp} {lo lo':Nat} (hu:∀ i c,h.m i=some c→lo≤i→keptC c.elem=true→h'.m i=some c) (ht':∀ t b,TyE h t b→TyE h' t b) (hl:lo'≤lo) {b:Nat} {e:NodeS} (he:NodeAt h lo b e):NodeAt h' lo' b e :=
 ⟨he.t.upW (fun i c hc h0 hk=>hu i c hc h0 (by rcases hk with hk|hk<;>rw [hk]<;>rfl)) hl,by
  obtain ⟨tb,tx,nu,re,A,n,c,hm,ht⟩:=he.c
  exact ⟨tb,tx,nu,re,A,n,c,hu _ _ hm he.t.lo rfl,ht' _ _ ht⟩⟩
theorem NodeAt.up {h h':Hp} {lo:Nat} (hu:KeptX h h') {b:Nat} {e:NodeS} (he:NodeAt h lo b e):NodeAt h' lo b e:=he.upW (fun i c hc _ hk=>hu i c hc hk) (fun _ _ ht=>ht.up hu) (Nat.le_refl _)
theorem NodeAt.weak {h:Hp} {lo lo':Nat} {b:Nat} {e:NodeS} (he:NodeAt h lo b e) (hl:lo'≤lo):NodeAt h lo' b e:=he.upW (fun i c hc _ _=>hc) (fun _ _ ht=>ht) hl
theorem NodeAt.cells {h:Hp} {lo b:Nat} {e:NodeS} (he:NodeAt h lo b e):∃ (tb:Nat) (text:ByteArray) (num:Int) (ref:Nat) (A:Option Addr) (n c:Nat),h.m b=some ⟨⟨nodeC e.op e.pos e.ty tb e.hid text num ref A n c⟩,225⟩∧TyE h e.ty tb:=he.c
theorem alo {P:Program} {h B':Hp} {π:Nat→Nat} {k:Nat} {l:List (Nat × Option Blk)} {lo:Nat} (a:Absb (P:=P) ⟨h,π,k,l⟩ B') (hlo:lo≤h.n) (i:Nat) (hi:Nat.ble (i+1) k=true):lo≤π i:=Nat.le_trans hlo (a.lo i (Nat.le_of_ble_eq_true hi))
theorem node0 {B:Hp} {lo b op pos:Nat} {ty:TyS} {tb:Nat} {hid:Bool} {text:ByteArray} {num:Int} {ref:Nat} (hm:B.m b=some ⟨⟨nodeC op pos ty tb hid text num ref none 0 0⟩,225⟩) (h0:lo≤b) (ht:TyE B ty tb):NodeAt B lo b (.mk op pos ty hid text num ref []) :=
 ⟨.mk (ps:=[]) h0 hm (.inl ⟨rfl,rfl⟩) rfl (fun i p k h=>by simp at h),⟨_,_,_,_,_,_,_,hm,ht⟩⟩
theorem node1 {B:Hp} {lo b op pos:Nat} {ty:TyS} {tb:Nat} {hid:Bool} {text:ByteArray} {num:Int} {ref kb p1 c:Nat} {e1:NodeS} (hm:B.m b=some ⟨⟨nodeC op pos ty tb hid text num ref (some ⟨kb,0,none⟩) 1 c⟩,225⟩) (h0:lo≤b) (ht:TyE B ty tb) (hk:B.m kb=some ⟨⟨[ptrC p1]⟩,192⟩) (hk0:lo≤kb) (h1:NodeAt B lo p1 e1):NodeAt B lo b (.mk op pos ty hid text num ref [e1]) :=
 ⟨.mk (ps:=[p1]) h0 hm (.inr ⟨kb,rfl,hk0,hk⟩) rfl (fun i p k hp hk=>by
  match i,hp,hk with
  | 0,hp,hk=>simp at hp hk;subst hp;subst hk;exact h1.t
  | i+1,hp,hk=>simp at hp),⟨_,_,_,_,_,_,_,hm,ht⟩⟩
theorem node2 {B:Hp} {lo b op pos:Nat} {ty:TyS} {tb:Nat} {hid:Bool} {text:ByteArray} {num:Int} {ref kb p1 p2 c:Nat} {e1 e2:NodeS} (hm:B.m b=some ⟨⟨nodeC op pos ty tb hid text num ref (some ⟨kb,0,none⟩) 2 c⟩,225⟩) (h0:lo≤b) (ht:TyE B ty tb) (hk:B.m kb=some ⟨⟨[ptrC p1,ptrC p2]⟩,192⟩) (hk0:lo≤kb) (h1:NodeAt B lo p1 e1) (h2:NodeAt B lo p2 e2):NodeAt B lo b (.mk op pos ty hid text num ref [e1,e2]) :=
 ⟨.mk (ps:=[p1,p2]) h0 hm (.inr ⟨kb,rfl,hk0,hk⟩) rfl (fun i p k hp hk=>by
  match i,hp,hk with
  | 0,hp,hk=>simp at hp hk;subst hp;subst hk;exact h1.t
  | 1,hp,hk=>simp at hp hk;subst hp;subst hk;exact h2.t
  | i+2,hp,hk=>simp at hp),⟨_,_,_,_,_,_,_,hm,ht⟩⟩
theorem node3 {B:Hp} {lo b op pos:Nat} {ty:TyS} {tb:Nat} {hid:Bool} {text:ByteArray} {num:Int} {ref kb p1 p2 p3 c:Nat} {e1 e2 e3:NodeS} (hm:B.m b=some ⟨⟨nodeC op pos ty tb hid text num ref (some ⟨kb,0,none⟩) 3 c⟩,225⟩) (h0:lo≤b) (ht:TyE B ty tb) (hk:B.m kb=some ⟨⟨[ptrC p1,ptrC p2,ptrC p3]⟩,192⟩) (hk0:lo≤kb) (h1:NodeAt B lo p1 e1) (h2:NodeAt B lo p2 e2) (h3:NodeAt B lo p3 e3):NodeAt B lo b (.mk op pos ty hid text num ref [e1,e2,e3]) :=
 ⟨.mk (ps:=[p1,p2,p3]) h0 hm (.inr ⟨kb,rfl,hk0,hk⟩) rfl (fun i p k hp hk=>by
  match i,hp,hk with
  | 0,hp,hk=>simp at hp hk;subst hp;subst hk;exact h1.t
  | 1,hp,hk=>simp at hp hk;subst hp;subst hk;exact h2.t
  | 2,hp,hk=>simp at hp hk;subst hp;subst hk;exact h3.t
  | i+3,hp,hk=>simp at hp),⟨_,_,_,_,_,_,_,hm,ht⟩⟩
theorem node1T {B:Hp} {lo b op pos:Nat} {ty:TyS} {tb:Nat} {hid:Bool} {text:ByteArray} {num:Int} {ref kb p1 c:Nat} {e1:NodeS} (hm:B.m b=some ⟨⟨nodeC op pos ty tb hid text num ref (some ⟨kb,0,none⟩) 1 c⟩,225⟩) (h0:lo≤b) (ht:TyE B ty tb) (hk:B.m kb=some ⟨⟨[ptrC p1]⟩,192⟩) (hk0:lo≤kb) (h1:NodeT B lo p1 e1):NodeAt B lo b (.mk op pos ty hid text num ref [e1]) :=
 ⟨.mk (ps:=[p1]) h0 hm (.inr ⟨kb,rfl,hk0,hk⟩) rfl (fun i p k hp hk=>by
  match i,hp,hk with
  | 0,hp,hk=>simp at hp hk;subst hp;subst hk;exact h1
  | i+1,hp,hk=>simp at hp),⟨_,_,_,_,_,_,_,hm,ht⟩⟩
theorem flatT {w:Nat} {L:List (List Value)} (hw:∀ c∈L,c.length=w) {i:Nat} {x:List Value} (hx:L[i]?=some x) {o n:Nat} (ho:o+n≤w):takeV (0+i * w+o) n L.flatten=(x.drop o).take n∧0+i * w+o+n≤L.flatten.length:=by
 have hlen:x.length=w:=hw x (List.mem_of_getElem? hx)
 have hi:i < L.length:=(List.getElem?_eq_some_iff.1 hx).1
 have h1:i * w+w≤L.length * w:=by rw [← Nat.succ_mul];exact Nat.mul_le_mul_right _ hi
 refine ⟨?_,by rw [flat_len hw];omega⟩
 rw [takeV_eq]
 apply List.ext_getElem?
 intro j
 by_cases hj:j < n
 ·rw [List.getElem?_take,if_pos hj,List.getElem?_drop,List.getElem?_take,if_pos hj,List.getElem?_drop,show 0+i * w+o+j=i * w+(o+j) by omega,flat_get hw i (o+j) (by omega),hx];rfl
 ·rw [List.getElem?_take,if_neg hj,List.getElem?_take,if_neg hj]
theorem flatG {w:Nat} {L:List (List Value)} (hw:∀ c∈L,c.length=w) {i:Nat} {x:List Value} (hx:L[i]?=some x) {o:Nat} (ho:o < w) {v:Value} (hv:x[o]?=some v):L.flatten[0+i * w+o]?=some v:=by
 rw [show 0+i * w+o=i * w+o by omega,flat_get hw i o ho,hx];exact hv
def varC (name:ByteArray) (t:TyS) (b:Nat) (mem:Bool) (pos:Nat) (D:Value):List Value:=[.string name]++tyC t b++[.bool mem,.int .i64 pos,D,.slice none 0 0,.bool false]
def rA1 {α:Type} (b:Nat) (l:List α):Option Addr:=if l=[] then none else some ⟨b,0,none⟩
def rK1 {α:Type} (sz:Nat) (l:List α):Nat:=if l=[] then 0 else capOf sz
def GlRow (h:Hp) (d:GlS) (c:List Value):Prop:=∃ b A n k,c=varC d.name d.ty b true d.pos (.slice A (n+1) k)∧TyE h d.ty b
def LcRow (h:Hp) (t:TyS) (c:List Value):Prop:=∃ nm b mem,c=varC nm t b mem 0 (.slice none 0 0)∧TyE h t b
structure RowsAt {α:Type} (h:Hp) (b:Nat) (l:List α) (e:TypeId) (R:Hp→α→List Value→Prop) (w:Nat) (gs:List (List Value)):Prop where
 m:h.m b=some ⟨⟨gs.flatten⟩,e⟩
 len:gs.length=l.length
 wid:∀ c∈gs,c.length=w
 row:∀ (i:Nat) (c:List Value) (d:α),gs[i]?=some c→l[i]?=some d→R h d c
 rw:rwM≤b
theorem varC_len (name:ByteArray) (t:TyS) (b:Nat) (mem:Bool) (pos:Nat) (D:Value):(varC name t b mem pos D).length=15:=by cases t<;>rfl
def nmC (x:ByteArray × Nat × Nat):List Value:=[.string x.1,.int .i64 x.2.1,.int .i64 x.2.2]
def nmsC (l:List (ByteArray × Nat × Nat)):List Value:=(l.map nmC).flatten
structure Pl where
 cb:Nat
 ub:Nat
 pb:Nat
 tb:Nat
 gb:Nat
 fb:Nat
 lb:Nat
 rb:Nat
 na:Option Addr
 nc:Nat
 fp:Nat
def NmAt (h:Hp) (na:Option Addr) (nc:Nat) (nm:List (ByteArray × Nat × Nat)):Prop:=(na=none∧nc=0∧nm=[])∨∃ b cs st,na=some ⟨b,0,none⟩∧nc=capOf 3∧h.m b=some ⟨⟨nmsC (nm++st)⟩,186⟩∧rwM≤b∧cs=nm++st
def ckC (q:Pl) (F:Value) (st:CS):List Value:=[.int .i64 st.fk,.int .i64 st.fa,ptrC q.ub,ptrC q.pb,F,.slice q.na st.nm.length q.nc,.int .i64 st.depth,.int .i64 0,.int .i64 0]
def ckB (q:Pl) (F:Value) (st:CS):Blk:=⟨⟨ckC q F st⟩,66⟩
def prC (q:Pl) (Fs:Value) (mn:Int) (st:CS):List Value:=[ptrC q.tb,.slice (rA1 q.gb st.gl) st.gl.length (rK1 15 st.gl),Fs,.int .i64 mn,.int .i64 st.data]
structure ChkW (B:Hp) (q:Pl) (F Fs:Value) (mn:Int) (st:CS):Prop where
 c:B.m q.cb=some (ckB q F st)
 p:B.m q.pb=some ⟨⟨prC q Fs mn st⟩,53⟩
 t:B.m q.tb=some ⟨⟨[.slice none 0 0]⟩,60⟩
 g:st.gl≠[]→∃ gs,RowsAt B q.gb st.gl 74 GlRow 15 gs
 n:NmAt B q.na q.nc st.nm
 cw:rwM≤q.cb
 pw:rwM≤q.pb
 nl:st.nm.length≤100
 gn:st.gl.length≤100
def fnC (q:Pl) (st:CS) (E:Value):List Value:=[.string bMain,.int .i64 5,.int .i64 0,.bool false,.bool false,.pointer none,.int .i64 0,.int .i64 0,.slice none 0 0,ptrC q.rb,.int .i64 q.fp,.int .i64 0,.slice (rA1 q.lb st.lc) st.lc.length (rK1 15 st.lc),E]
structure ChkF (B:Hp) (q:Pl) (st:CS):Prop where
 w:ChkW B q (ptrC q.fb) (.slice (some ⟨q.fb,0,none⟩) 1 (capOf 14)) 0 st
 f:B.m q.fb=some ⟨⟨fnC q st (.pointer none)⟩,134⟩
 r:B.m q.rb=some ⟨⟨intC st.ret⟩,71⟩
 l:st.lc≠[]→∃ gs,RowsAt B q.lb st.lc 74 LcRow 15 gs
 fw:rwM≤q.fb
 ll:st.lc.length≤100
theorem GlRow.up {h h':Hp} (hu:KeptX h h') {d:GlS} {c:List Value} (r:GlRow h d c):GlRow h' d c:=by
 obtain ⟨b,A,n,k,h1,h2⟩:=r;exact ⟨b,A,n,k,h1,h2.up hu⟩
theorem LcRow.up {h h':Hp} (hu:KeptX h h') {d:TyS} {c:List Value} (r:LcRow h d c):LcRow h' d c:=by
 obtain ⟨b,D,m,h1,h2⟩:=r;exact ⟨b,D,m,h1,h2.up hu⟩
theorem RowsAt.up {α:Type} {h h':Hp} {b:Nat} {l:List α} {e:TypeId} {R:Hp→α→List Value→Prop} {w:Nat} {gs:List (List Value)} (r:RowsAt h b l e R w gs) (hm:h'.m b=h.m b) (hR:∀ d c,R h d c→R h' d c):RowsAt h' b l e R w gs :=
 ⟨hm.trans r.m,r.len,r.wid,fun i c d h1 h2=>hR d c (r.row i c d h1 h2),r.rw⟩
theorem OffP.kx {cb:Nat} {h h':Hp} {c:Blk} (o:OffP cb h h') (hc:h.m cb=some c) (he:c.elem=66) (hd:∀ i b,h.m i=some b→i < h.n):KeptX h h':=fun i x hx hk=>by
 rw [o.2 i (hd _ _ hx) (fun e=>by subst e;rw [hc] at hx;cases hx;rw [he] at hk;exact absurd hk (by decide))];exact hx
theorem ChkW.off {B B':Hp} {q:Pl} {F Fs:Value} {mn:Int} {st:CS} (w:ChkW B q F Fs mn st) {st':CS} (hd:∀ i b,B.m i=some b→i < B.n) (o:OffP q.cb B B') (hc:B'.m q.cb=some (ckB q F st')) (e1:st'.gl=st.gl) (e2:st'.nm=st.nm) (e3:st'.data=st.data):ChkW B' q F Fs mn st':=by
 have hk:∀ i c,B.m i=some c→c.elem≠66→B'.m i=some c:=fun i c hi he=>by
  rw [o.2 i (hd _ _ hi) (fun e=>by subst e;rw [w.c] at hi;cases hi;exact he rfl)];exact hi
 have kx:=o.kx w.c rfl hd
 refine ⟨hc,?_,hk _ _ w.t (fun e=>absurd (show (60:Nat)=66 from e) (by decide)),fun hne=>?_,?_,w.cw,w.pw,by rw [e2];exact w.nl,by rw [e1];exact w.gn⟩
 ·have:=hk _ _ w.p (fun e=>absurd (show (53:Nat)=66 from e) (by decide))
  unfold prC at this ⊢
  rw [e1,e3];exact this
 ·rw [e1] at hne
  obtain ⟨gs,r⟩:=w.g hne
  refine ⟨gs,?_⟩
  rw [e1]
  exact r.up ((hk _ _ r.m (fun e=>absurd (show (74:Nat)=66 from e) (by decide))).trans r.m.symm) fun d c=>GlRow.up kx
 ·rw [e2]
  rcases w.n with h|⟨b,cs,st,h1,h2,h3,h4,h5⟩
  ·exact .inl h
  ·exact .inr ⟨b,cs,st,h1,h2,hk _ _ h3 (fun e=>absurd (show (186:Nat)=66 from e) (by decide)),h4,h5⟩
theorem ChkF.off {B B':Hp} {q:Pl} {st:CS} (w:ChkF B q st) {st':CS} (hd:∀ i b,B.m i=some b→i < B.n) (o:OffP q.cb B B') (hc:B'.m q.cb=some (ckB q (ptrC q.fb) st')) (e1:st'.gl=st.gl) (e2:st'.nm=st.nm) (e3:st'.data=st.data) (e4:st'.lc=st.lc) (e5:st'.ret=st.ret):ChkF B' q st':=by
 have hk:∀ i c,B.m i=some c→c.elem≠66→B'.m i=some c:=fun i c hi he=>by
  rw [o.2 i (hd _ _ hi) (fun e=>by subst e;rw [w.w.c] at hi;cases hi;exact he rfl)];exact hi
 have kx:=o.kx w.w.c rfl hd
 refine ⟨w.w.off hd o hc e1 e2 e3,?_,?_,fun hne=>?_,w.fw,by rw [e4];exact w.ll⟩
 ·have:=hk _ _ w.f (fun e=>absurd (show (134:Nat)=66 from e) (by decide))
  unfold fnC at this ⊢
  rw [e4];exact this
 ·rw [e5];exact hk _ _ w.r (fun e=>absurd (show (71:Nat)=66 from e) (by decide))
 ·rw [e4] at hne
  obtain ⟨gs,r⟩:=w.l hne
  refine ⟨gs,?_⟩
  rw [e4]
  exact r.up ((hk _ _ r.m (fun e=>absurd (show (74:Nat)=66 from e) (by decide))).trans r.m.symm) fun d c=>LcRow.up kx
theorem ChkW.old {B B':Hp} {q:Pl} {F Fs:Value} {mn:Int} {st:CS} (w:ChkW B q F Fs mn st) (hd:∀ i b,B.m i=some b→i < B.n) (o:Old B B'):ChkW B' q F Fs mn st :=
 w.off hd o.off (by rw [o.2 _ (hd _ _ w.c)];exact w.c) rfl rfl rfl
theorem ChkF.old {B B':Hp} {q:Pl} {st:CS} (w:ChkF B q st) (hd:∀ i b,B.m i=some b→i < B.n) (o:Old B B'):ChkF B' q st :=
 w.off hd o.off (by rw [o.2 _ (hd _ _ w.w.c)];exact w.w.c) rfl rfl rfl rfl rfl
theorem Absb.kx {P:Program} {B B':Hp} {π:Nat→Nat} {k:Nat} {l:List (Nat × Option Blk)} (a:Absb (P:=P) ⟨B,π,k,l⟩ B'):KeptX B B':=KeptX.of a.up
theorem Old.kx {B B1:Hp} (o:Old B B1) (hd:∀ i b,B.m i=some b→i < B.n):KeptX B B1:=KeptX.of fun i c hc=>by rw [o.2 i (hd _ _ hc)];exact hc
theorem NmAt.up {h h':Hp} {na:Option Addr} {nc:Nat} {nm:List (ByteArray × Nat × Nat)} (hn:NmAt h na nc nm) (hu:∀ i b,h.m i=some b→h'.m i=some b):NmAt h' na nc nm:=by
 rcases hn with h1|⟨b,cs,st,h1,h2,h3,h4,h5⟩
 ·exact .inl h1
 ·exact .inr ⟨b,cs,st,h1,h2,hu _ _ h3,h4,h5⟩
def KeptN (h h':Hp):Prop:=∀ i b,h.m i=some b→Nat.beq b.elem 225=false→h'.m i=some b
theorem TyE.upN {h h':Hp} (hu:KeptN h h') {t:TyS} {b:Nat} (ht:TyE h t b):TyE h' t b:=by
 cases t with
 | void=>trivial
 | int l=>trivial
 | ptr l=>exact hu _ _ (show h.m b=_ from ht) rfl
 | arr l n=>exact hu _ _ (show h.m b=_ from ht) rfl
theorem NmAt.upN {h h':Hp} {na:Option Addr} {nc:Nat} {nm:List (ByteArray × Nat × Nat)} (hn:NmAt h na nc nm) (hu:KeptN h h'):NmAt h' na nc nm:=by
 rcases hn with h1|⟨b,cs,st,h1,h2,h3,h4,h5⟩
 ·exact .inl h1
 ·exact .inr ⟨b,cs,st,h1,h2,hu _ _ h3 rfl,h4,h5⟩
theorem ChkW.upN {B H:Hp} {q:Pl} {F Fs:Value} {mn:Int} {st:CS} (w:ChkW B q F Fs mn st) (hu:KeptN B H):ChkW H q F Fs mn st :=
 ⟨hu _ _ w.c rfl,hu _ _ w.p rfl,hu _ _ w.t rfl,fun hne=>by
  obtain ⟨gs,r⟩:=w.g hne
  exact ⟨gs,r.up ((hu _ _ r.m rfl).trans r.m.symm) fun d c ⟨b,A,n,k,h1,h2⟩=>⟨b,A,n,k,h1,h2.upN hu⟩⟩,w.n.upN hu,w.cw,w.pw,w.nl,w.gn⟩
theorem ChkF.upN {B H:Hp} {q:Pl} {st:CS} (w:ChkF B q st) (hu:KeptN B H):ChkF H q st :=
 ⟨w.w.upN hu,hu _ _ w.f rfl,hu _ _ w.r rfl,fun hne=>by
  obtain ⟨gs,r⟩:=w.l hne
  exact ⟨gs,r.up ((hu _ _ r.m rfl).trans r.m.symm) fun d c ⟨b,A,m,h1,h2⟩=>⟨b,A,m,h1,h2.upN hu⟩⟩,w.fw,w.ll⟩
theorem ChkW.upA {B H:Hp} {q:Pl} {F Fs:Value} {mn:Int} {st:CS} (w:ChkW B q F Fs mn st) (hu:∀ i b,B.m i=some b→H.m i=some b):ChkW H q F Fs mn st:=w.upN fun i b hb _=>hu i b hb
theorem ChkW.sees {B H:Hp} {q:Pl} {F Fs:Value} {mn:Int} {st:CS} (w:ChkW B q F Fs mn st) {π:Nat→Nat} {k:Nat} {hl:List (Nat × Option Blk)} {vl:List Nat} (hd:∀ i b,B.m i=some b→i < B.n) (s:Sees ⟨B,π,k,hl⟩ true vl H):ChkW H q F Fs mn st :=
 w.upA fun i b hb=>(s.b rfl i (hd _ _ hb)).trans hb
structure NowC (q:Pl) (e0:CS) (G B:Hp) (st:CS):Prop where
 c:ChkF B q st
 d:∀ i b,B.m i=some b→i < B.n
 o:OffP q.cb G B
 k:KeptX G B
 n:st.fk=0→st=e0∧Old G B
theorem NowC.start {q:Pl} {h:Hp} {st:CS} (c:ChkF h q st) {P:Program} (s:Sat P h):NowC q st h h st:=⟨c,s.dom,OffP.refl _ h,KeptX.refl h,fun _=>⟨rfl,Nat.le_refl _,fun _ _=>rfl⟩⟩
theorem NowC.abs {P:Program} {q:Pl} {e0:CS} {G B B':Hp} {st:CS} {π:Nat→Nat} {k:Nat} {l:List (Nat × Option Blk)} (w:NowC q e0 G B st) (a:Absb (P:=P) ⟨B,π,k,l⟩ B'):NowC q e0 G B' st :=
 ⟨w.c.old w.d ⟨a.le,a.old⟩,a.dom,w.o.trans (Old.off ⟨a.le,a.old⟩),w.k.trans (Absb.kx a),fun h=>⟨(w.n h).1,(w.n h).2.trans ⟨a.le,a.old⟩⟩⟩
theorem NowC.stepO {q:Pl} {e0:CS} {G B B1:Hp} {st:CS} (w:NowC q e0 G B st) (o:Old B B1) (hd:∀ i b,B1.m i=some b→i < B1.n):NowC q e0 G B1 st:=⟨w.c.old w.d o,hd,w.o.trans o.off,w.k.trans (Old.kx o w.d),fun h=>⟨(w.n h).1,(w.n h).2.trans o⟩⟩
theorem NowC.kxo {q:Pl} {e0:CS} {G B B1:Hp} {st:CS} (w:NowC q e0 G B st) (o:OffP q.cb B B1):KeptX B B1:=o.kx w.c.w.c rfl w.d
theorem NowC.step {q:Pl} {e0:CS} {G B B1:Hp} {st st':CS} (w:NowC q e0 G B st) (c:ChkF B1 q st') (o:OffP q.cb B B1) (n:st'.fk=0→st'=st∧Old B B1) (hd:∀ i b,B1.m i=some b→i < B1.n):NowC q e0 G B1 st':=⟨c,hd,w.o.trans o,w.k.trans (w.kxo o),fun h=>by
 obtain ⟨e,o'⟩:=n h
 subst e
 exact ⟨(w.n h).1,(w.n h).2.trans o'⟩⟩
theorem NowC.cv {q:Pl} {e0:CS} {G B:Hp} {st:CS} (w:NowC q e0 G B st):bnd B.n (ptrC q.cb):=by simp [ptrC];exact w.d _ _ w.c.w.c
theorem NowC.write {q:Pl} {e0:CS} {G B:Hp} {st:CS} (w:NowC q e0 G B st) {ob:Nat} {cs cs':Array Value} (hb:B.m ob=some ⟨cs,225⟩) (ho:G.n≤ob) (hG:∀ i b,G.m i=some b→i < G.n):NowC q e0 G (B.set ob ⟨cs',225⟩) st:=by
 have hm:∀ i,(B.set ob ⟨cs',225⟩).m i=if i=ob then some ⟨cs',225⟩ else B.m i:=fun i=>rfl
 have kn:KeptN B (B.set ob ⟨cs',225⟩):=fun i b h1 h2=>by
  rw [hm]
  by_cases e:i=ob
  ·subst e;rw [hb] at h1;cases h1;exact absurd (show Nat.beq 225 225=false from h2) (by decide)
  ·rw [if_neg e];exact h1
 refine ⟨w.c.upN kn,fun i b h1=>?_,⟨w.o.1,fun i hi hn=>?_⟩,fun i b h1 h2=>?_,fun h=>⟨(w.n h).1,w.o.1,fun i hi=>by rw [hm,if_neg (by omega)];exact (w.n h).2.2 i hi⟩⟩
 ·rw [hm] at h1
  by_cases e:i=ob
  ·subst e;exact w.d _ _ hb
  ·rw [if_neg e] at h1;exact w.d _ _ h1
 ·rw [hm,if_neg (by omega)];exact w.o.2 i hi hn
 ·rw [hm,if_neg (by have:=hG i b h1;omega)];exact w.k i b h1 h2
theorem NodeAt.write {B:Hp} {lo b ob:Nat} {e:NodeS} {cs cs':Array Value} (he:NodeAt B lo b e) (hb:B.m ob=some ⟨cs,225⟩) (ho:ob < lo):NodeAt (B.set ob ⟨cs',225⟩) lo b e:=by
 have hm:∀ i,(B.set ob ⟨cs',225⟩).m i=if i=ob then some ⟨cs',225⟩ else B.m i:=fun i=>rfl
 refine he.upW (fun i c hc hl _=>by rw [hm,if_neg (by omega)];exact hc) (fun t b ht=>ht.upN fun i c hc hk=>?_) (Nat.le_refl _)
 rw [hm]
 by_cases e:i=ob
 ·subst e;rw [hb] at hc;cases hc;exact absurd (show Nat.beq 225 225=false from hk) (by decide)
 ·rw [if_neg e];exact hc
theorem NowC.fresh {q:Pl} {e0:CS} {G B:Hp} {st:CS} (w:NowC q e0 G B st) (c0:ChkF G q e0) (hf:st.fk=0) {ob:Nat} {c c':Blk} (hb:B.m ob=some c) (ho:G.n≤ob) (hG:∀ i b,G.m i=some b→i < G.n):NowC q e0 G (B.set ob c') st:=by
 obtain ⟨e,o⟩:=w.n hf
 subst e
 have hm:∀ i,(B.set ob c').m i=if i=ob then some c' else B.m i:=fun i=>rfl
 have o':Old G (B.set ob c'):=⟨o.1,fun i hi=>by rw [hm,if_neg (by omega)];exact o.2 i hi⟩
 refine ⟨c0.old hG o',fun i b h1=>?_,o'.off,Old.kx o' hG,fun _=>⟨rfl,o'⟩⟩
 rw [hm] at h1
 by_cases e:i=ob
 ·subst e;exact w.d _ _ hb
 ·rw [if_neg e] at h1;exact w.d _ _ h1
theorem NodeT.other {B:Hp} {lo b ob:Nat} {e:NodeS} {cs cs':Array Value} {el:TypeId} (he:NodeT B lo b e) (hb:B.m ob=some ⟨cs,el⟩) (h1:Nat.beq el 225=false) (h2:Nat.beq el 192=false):NodeT (B.set ob ⟨cs',el⟩) lo b e:=by
 refine he.upW (fun i c hc _ hk=>?_) (Nat.le_refl _)
 show (if i=ob then some ⟨cs',el⟩ else B.m i)=some c
 by_cases e:i=ob
 ·subst e;rw [hb] at hc;cases hc
  rcases hk with hk|hk
  ·have hk:el=225:=hk
   rw [hk] at h1;exact absurd h1 (by decide)
  ·have hk:el=192:=hk
   rw [hk] at h2;exact absurd h2 (by decide)
 ·rw [if_neg e];exact hc
theorem TyE.other {B:Hp} {ob:Nat} {cs cs':Array Value} {el:TypeId} (hb:B.m ob=some ⟨cs,el⟩) (h1:Nat.beq el 71=false) (t:TyS) (b:Nat) (ht:TyE B t b):TyE (B.set ob ⟨cs',el⟩) t b:=by
 have key:∀ l,B.m b=some ⟨⟨intC l⟩,71⟩→(B.set ob ⟨cs',el⟩).m b=some ⟨⟨intC l⟩,71⟩:=fun l hc=>by
  show (if b=ob then some ⟨cs',el⟩ else B.m b)=_
  by_cases e:b=ob
  ·subst e;rw [hb] at hc
   injection hc with hc
   injection hc with _ hc
   rw [hc] at h1;exact absurd h1 (by decide)
  ·rw [if_neg e];exact hc
 cases t with
 | void=>trivial
 | int l=>trivial
 | ptr l=>exact key l ht
 | arr l n=>exact key l ht
theorem NodeAt.other {B:Hp} {lo b ob:Nat} {e:NodeS} {cs cs':Array Value} {el:TypeId} (he:NodeAt B lo b e) (hb:B.m ob=some ⟨cs,el⟩) (h1:Nat.beq el 225=false) (h2:Nat.beq el 192=false) (h3:Nat.beq el 71=false):NodeAt (B.set ob ⟨cs',el⟩) lo b e :=
 ⟨he.t.other hb h1 h2,by
  obtain ⟨tb,tx,nu,re,A,n,c,hm,ht⟩:=he.c
  refine ⟨tb,tx,nu,re,A,n,c,?_,TyE.other hb h3 _ _ ht⟩
  show (if b=ob then some ⟨cs',el⟩ else B.m b)=_
  by_cases e:b=ob
  ·subst e;rw [hb] at hm;injection hm with hm;injection hm with _ hm;rw [hm] at h1;exact absurd h1 (by decide)
  ·rw [if_neg e];exact hm⟩
theorem CS.fail_nm (st:CS) (k p:Nat):(st.fail k p).nm=st.nm∧(st.fail k p).gl=st.gl∧(st.fail k p).data=st.data∧(st.fail k p).lc=st.lc∧(st.fail k p).ret=st.ret∧(st.fail k p).depth=st.depth:=by
 unfold CS.fail;split<;>exact ⟨rfl,rfl,rfl,rfl,rfl,rfl⟩
theorem NowC.failed {q:Pl} {e0:CS} {G B:Hp} {st:CS} (w:NowC q e0 G B st) (k p:Nat) (hk:k≠0):NowC q e0 G (B.set q.cb (ckB q (ptrC q.fb) (st.fail k p))) (st.fail k p):=by
 obtain ⟨f1,f2,f3,f4,f5,f6⟩:=st.fail_nm k p
 refine w.step (w.c.off w.d (OffP.set B _) (by show (if q.cb=q.cb then _ else _)=_;rw [if_pos rfl]) f2 f1 f3 f4 f5) (OffP.set B _) (fun h=>absurd h ?_) fun i b hb=>?_
 ·unfold CS.fail;split
  ·exact hk
  ·rename_i h;exact h
 have hb:(if i=q.cb then _ else B.m i)=some b:=hb
 by_cases e:i=q.cb
 ·rw [e];exact w.d _ _ w.c.w.c
 ·rw [if_neg e] at hb;exact w.d _ _ hb
end Go.Proofs.YtgpigfcagppohaaGreatDoor
namespace Go.Proofs.YtgpigfcagppohaaGreatDoor
theorem bind_some' {α β:Type} {o:Option α} {f:α→Option β} {r:β} (h:(o >>= f)=some r):∃ x,o=some x∧f x=some r:=Option.bind_eq_some_iff.1 h
theorem take_iff {L:Nat→TokS} {st t:PS} {s:ByteArray} {b:Bool} (h:st.take L s=some (b,t)):(b=true∧st.fk=0∧st.is L s=true∧st.adv=some t)∨(b=false∧t=st∧¬ (st.fk=0∧st.is L s=true)):=by
 unfold PS.take at h
 split at h
 ·rename_i hc
  obtain ⟨u,h1,h2⟩:=Option.map_eq_some_iff.1 h
  injection h2 with h3 h4
  subst h3;subst h4
  exact .inl ⟨rfl,hc.1,hc.2,h1⟩
 ·rename_i hc
  injection h with h;injection h with h3 h4
  exact .inr ⟨h3.symm,h4.symm,hc⟩
theorem want_iff {L:Nat→TokS} {st t:PS} {s:ByteArray} (h:st.want L s=some t):∃ b u,st.take L s=some (b,u)∧((b=true∧t=u)∨(b=false∧t=u.fail L 11)):=by
 unfold PS.want at h
 obtain ⟨⟨b,u⟩,h1,h2⟩:=Option.map_eq_some_iff.1 h
 refine ⟨b,u,h1,?_⟩
 cases b with
 | true=>exact .inl ⟨rfl,h2.symm⟩
 | false=>exact .inr ⟨rfl,h2.symm⟩
theorem adv_iff {st t:PS} (h:st.adv=some t):st.at_ < 1000000∧t={ st with at_:=st.at_+1 }:=by
 unfold PS.adv at h
 split at h
 ·injection h with h;exact ⟨by assumption,h.symm⟩
 ·cases h
end Go.Proofs.YtgpigfcagppohaaGreatDoor
