/-
  What the functions that the law reaches compute,told by plain data;it holds of programs that pass the check of right form and are light.
-/
import Derived.Test.YtgpigfcagppohaaGreatDoorR3
import Derived.Test.YtgpigfcagppohaaGreatDoorR37
set_option linter.unusedVariables false
set_option linter.unusedSimpArgs false
namespace Go.Proofs.YtgpigfcagppohaaGreatDoor
section
variable {T:Nat→TokS} {a b c d n m:Nat} {ks ls:List TokS} {q:TokS} {e e1 e2 e3:ExprS} {s:ByteArray} {r:Req}
def PE (T:Nat→TokS) (n:Nat) (r:Req) (a d:Nat) (e:ExprS) (b:Nat):Prop:=a < b∧∀ k,k≤a+1→∃ k',k'+a≤k+b∧parseE T n r ⟨a,d,k,0,0⟩=some (e,⟨b,d,k',0,0⟩)
theorem PE.le (h:PE T n r a d e b) (hm:n≤m):PE T m r a d e b:=by
 refine ⟨h.1,fun k hk=>?_⟩
 obtain ⟨k',h1,h2⟩:=h.2 k hk
 refine ⟨k',h1,?_⟩
 obtain ⟨j,rfl⟩:∃ j,m=n+j:=⟨m - n,by omega⟩
 clear hm
 induction j with
 | zero=>exact h2
 | succ j ih=>exact parse_le _ _ _ _ ih
def stopP (t:TokS):Bool:=!(wordy t (b1 91) || wordy t (b1 46) || wordy t (b2 45 62) || wordy t (b2 43 43) || wordy t (b2 45 45) || wordy t (b1 40))
theorem post_end (hq:stopP (T a)=true) {k:Nat}:parseE T (n+1) (.post e) ⟨a,d,k,0,0⟩=some (e,⟨a,d,k,0,0⟩):=by
 unfold stopP at hq
 simp only [Bool.not_eq_true',Bool.or_eq_false_iff] at hq
 obtain ⟨⟨⟨⟨⟨h1,h2⟩,h3⟩,h4⟩,h5⟩,h6⟩:=hq
 rw [parseE]
 simp only [PS.is,PS.tok,h1,h2,h3,h4,h5,h6]
 simp
def plainT (t t':TokS):Bool:=!((t.kind == 4 && unaries.any (fun a=>eqB t.text a)) || (t.kind == 4 && (eqB t.text (b2 43 43) || eqB t.text (b2 45 45))) || (t.kind == 4 && eqB t.text (b1 40) && typedT t') || wordy t bSizeof)
theorem PE.prim (hp:plainT (T a) (T (a+1))=true) (h1:a≤b) (hb:b < 3000) (hd:d < 60) (hbc:b≤c) (hac:a < c)
 (h:∀ k,k≤a+1→∃ k',k'+a≤k+b∧parseE T n .primary ⟨a,d+1,k,0,0⟩=some (e1,⟨b,d+1,k',0,0⟩))
 (h':∀ k,k≤b+1→∃ k',k'+b≤k+c∧parseE T n (.post e1) ⟨b,d+1,k,0,0⟩=some (e,⟨c,d+1,k',0,0⟩)):PE T (n+1) .unary a d e c:=by
 refine ⟨hac,fun k hk=>?_⟩
 obtain ⟨k1,hk1,g1⟩:=h k hk
 obtain ⟨k2,hk2,g2⟩:=h' k1 (by omega)
 refine ⟨k2,by omega,?_⟩
 unfold plainT at hp
 simp only [Bool.not_eq_true',Bool.or_eq_false_iff] at hp
 obtain ⟨⟨⟨p1,p2⟩,p3⟩,p4⟩:=hp
 have q1:¬ ((T a).kind=4∧unaries.any (fun x=>eqB (T a).text x)=true):=by rintro ⟨x,y⟩;rw [x,y] at p1;exact absurd p1 (by decide)
 have q2:¬ ((T a).kind=4∧(eqB (T a).text (b2 43 43) || eqB (T a).text (b2 45 45))=true):=by rintro ⟨x,y⟩;rw [x,y] at p2;exact absurd p2 (by decide)
 have q3:¬ ((T a).kind=4∧eqB (T a).text (b1 40)=true∧typedT (T (a+1))=true):=by rintro ⟨x,y,z⟩;rw [x,y,z] at p3;exact absurd p3 (by decide)
 have q4:¬ ((T a).kind=4∧eqB (T a).text (b1 40)=true∧¬ a < 1000000):=by rintro ⟨_,_,z⟩;exact z (by omega)
 rw [parseE,downY hd]
 simp only [Option.bind_eq_bind,Option.bind_some,PS.tok,ne_eq,not_true_eq_false,if_false]
 rw [if_neg q1,if_neg q2,if_neg q3,if_neg q4,takeN p4]
 simp only [Option.bind_some,Bool.false_eq_true,if_false,g1,g2]
 exact upEY
theorem prim_nam (h:nk (T a)=nam s) (ha:a < 3000) (k:Nat) (hk:k≤a+1):parseE T (n+1) .primary ⟨a,d,k,0,0⟩=some (.mk 2 (T a).pos s zeroTok zeroType [],⟨a+1,d,k+1,0,0⟩):=by
 rw [parseE]
 rw [show PS.tok T ⟨a,d,k,0,0⟩=T a from rfl,if_neg (show ¬ (T a).kind=3 by rw [kind_nk h];exact (by decide:¬ (1:Nat)=3)),if_pos (show (T a).kind=1 from kind_nk h),advY (by omega)]
 simp only [Option.bind_eq_bind,Option.bind_some]
 rw [exprY (by omega),text_nk h];rfl
theorem prim_num {v:Nat} (h:nk (T a)=num s v) (ha:a < 3000) (k:Nat) (hk:k≤a+1):parseE T (n+1) .primary ⟨a,d,k,0,0⟩=some (.mk 1 (T a).pos ⟨#[]⟩ (T a) zeroType [],⟨a+1,d,k+1,0,0⟩):=by
 rw [parseE]
 rw [show PS.tok T ⟨a,d,k,0,0⟩=T a from rfl,if_pos (show (T a).kind=3 from kind_nk h),advY (by omega)]
 simp only [Option.bind_eq_bind,Option.bind_some]
 rw [exprY (by omega)];rfl
theorem plain_nam (h:nk (T a)=nam s) {t:TokS}:plainT (T a) t=true:=by
 have h1:(T a).kind=1:=kind_nk h
 unfold plainT wordy
 rw [h1];rfl
theorem plain_num {v:Nat} (h:nk (T a)=num s v) {t:TokS}:plainT (T a) t=true:=by
 have h1:(T a).kind=3:=kind_nk h
 unfold plainT wordy
 rw [h1];rfl
theorem PE.nam (h:nk (T a)=nam s) (hp:stopP (T (a+1))=true) (ha:a < 2900) (hd:d < 60):PE T (n+2) .unary a d (.mk 2 (T a).pos s zeroTok zeroType []) (a+1) :=
 PE.prim (plain_nam h) (Nat.le_succ a) (by omega) hd (Nat.le_refl _) (Nat.lt_succ_self a) (fun k hk=>⟨k+1,by omega,prim_nam h (by omega) k hk⟩) fun k hk=>⟨k,by omega,post_end hp⟩
theorem PE.num {v:Nat} (h:nk (T a)=num s v) (hp:stopP (T (a+1))=true) (ha:a < 2900) (hd:d < 60):PE T (n+2) .unary a d (.mk 1 (T a).pos ⟨#[]⟩ (T a) zeroType []) (a+1) :=
 PE.prim (plain_num h) (Nat.le_succ a) (by omega) hd (Nat.le_refl _) (Nat.lt_succ_self a) (fun k hk=>⟨k+1,by omega,prim_num h (by omega) k hk⟩) fun k hk=>⟨k,by omega,post_end hp⟩
theorem plain_par (h:nk (T a)=sgn 40) (ht:typedT (T (a+1))=false):plainT (T a) (T (a+1))=true:=by
 unfold plainT
 rw [ht,wordy_nk h,kind_nk h,text_nk h];decide
theorem PE.paren (h:nk (T a)=sgn 40) (ht:typedT (T (a+1))=false) (hf:PE T n .full (a+1) (d+1) e b) (hc:nk (T b)=sgn 41) (hp:stopP (T (b+1))=true) (hb:b < 2900) (hd:d < 59):PE T (n+3) .unary a d e (b+1):=by
 have hab:=hf.1
 refine PE.prim (b:=b+1) (e1:=e) (plain_par h ht) (by omega) (by omega) (by omega) (Nat.le_refl _) (by omega) (fun k hk=>?_) fun k hk=>⟨k,by omega,post_end hp⟩
 obtain ⟨k1,hk1,g1⟩:=hf.2 k (by omega)
 refine ⟨k1,by omega,?_⟩
 rw [parseE,show PS.tok T ⟨a,d+1,k,0,0⟩=T a from rfl,if_neg (by rw [kind_nk h];decide),if_neg (by rw [kind_nk h];decide),if_pos (show PS.is T ⟨a,d+1,k,0,0⟩ (b1 40)=true by rw [isY h];decide),parseE,wantY (by rw [wordy_nk h];decide) (by omega)]
 simp only [Option.bind_eq_bind,Option.bind_some,g1]
 rw [wantY (by rw [wordy_nk hc];decide) (by omega)];rfl
theorem PE.index (h:nk (T a)=Proofs.YtgpigfcagppohaaGreatDoor.nam s) (ho:nk (T (a+1))=sgn 91) (hf:PE T n .full (a+2) (d+1) e b) (hc:nk (T b)=sgn 93) (hp:stopP (T (b+1))=true) (hb:b < 2900) (hd:d < 59) :
 PE T (n+2) .unary a d (.mk 4 (T (a+1)).pos ⟨#[]⟩ zeroTok zeroType [.mk 2 (T a).pos s zeroTok zeroType [],e]) (b+1):=by
 have hab:=hf.1
 refine (PE.prim (n:=n+1) (b:=a+1) (plain_nam h) (by omega) (by omega) (by omega) (by omega) (by omega) (fun k hk=>⟨k+1,by omega,prim_nam h (by omega) k hk⟩) fun k hk=>?_)
 obtain ⟨k1,hk1,g1⟩:=hf.2 k (by omega)
 refine ⟨k1+1,by omega,?_⟩
 rw [parseE,if_neg (fun h=>h rfl),if_pos (show PS.is T ⟨a+1,d+1,k,0,0⟩ (b1 91)=true by rw [isY ho];decide),advY (by omega)]
 simp only [Option.bind_eq_bind,Option.bind_some,g1]
 rw [wantY (by rw [wordy_nk hc];decide) (by omega)]
 simp only [Option.bind_some]
 rw [exprY (by omega)]
 simp only [Option.bind_some]
 obtain ⟨n,rfl⟩:∃ j,n=j+1:=by
  cases n with
  | zero=>rw [parseE] at g1;cases g1
  | succ j=>exact ⟨j,rfl⟩
 exact post_end hp
theorem PE.call (h:nk (T a)=Proofs.YtgpigfcagppohaaGreatDoor.nam s) (ho:nk (T (a+1))=sgn 40) (hn:wordy (T (a+2)) (b1 41)=false) (hf:PE T n .full (a+2) (d+1) e b) (hc:nk (T b)=sgn 41) (hp:stopP (T (b+1))=true) (hb:b < 2900) (hd:d < 59) :
 PE T (n+2) .unary a d (.mk 3 (T (a+1)).pos ⟨#[]⟩ zeroTok zeroType [.mk 2 (T a).pos s zeroTok zeroType [],e]) (b+1):=by
 have hab:=hf.1
 refine (PE.prim (n:=n+1) (b:=a+1) (plain_nam h) (by omega) (by omega) (by omega) (by omega) (by omega) (fun k hk=>⟨k+1,by omega,prim_nam h (by omega) k hk⟩) fun k hk=>?_)
 obtain ⟨k1,hk1,g1⟩:=hf.2 k (by omega)
 refine ⟨k1+1,by omega,?_⟩
 have hno:∀ s,wordy (sgn 40) s=false→¬ PS.is T ⟨a+1,d+1,k,0,0⟩ s=true:=fun s hs=>by rw [isY ho,hs];decide
 rw [parseE,if_neg (fun h=>h rfl),if_neg (hno _ (by decide)),if_neg (by
  rw [isY ho,isY ho,isY ho,isY ho];decide),if_pos (show PS.is T ⟨a+1,d+1,k,0,0⟩ (b1 40)=true by rw [isY ho];decide),advY (by omega)]
 simp only [Option.bind_eq_bind,Option.bind_some]
 rw [if_neg (show ¬ PS.is T ⟨a+1+1,d+1,k,0,0⟩ (b1 41)=true by
  show ¬ wordy (T (a+2)) (b1 41)=true
  rw [hn];decide),g1]
 simp only [Option.bind_some]
 rw [if_neg (by
  rintro (x|x)
  ·exact x rfl
  ·rw [isY hc] at x;exact absurd x (by decide)),advY (by omega)]
 simp only [Option.bind_some]
 rw [exprY (by omega)]
 simp only [Option.bind_some]
 obtain ⟨n,rfl⟩:∃ j,n=j+1:=by
  cases n with
  | zero=>rw [parseE] at g1;cases g1
  | succ j=>exact ⟨j,rfl⟩
 exact post_end hp
def binX (t:TokS) (e r:ExprS):ExprS:=if eqB t.text (b2 124 124) then .mk 14 t.pos ⟨#[]⟩ zeroTok zeroType [e,r] else if eqB t.text (b2 38 38) then .mk 13 t.pos ⟨#[]⟩ zeroTok zeroType [e,r] else .mk 12 t.pos t.text zeroTok zeroType [e,r]
theorem binEY {t:TokS} {k:Nat} (hk:k < 6000):binE T t e1 e2 ⟨a,d,k,0,0⟩=some (binX t e1 e2,⟨a,d,k+1,0,0⟩):=by
 unfold binE binX
 rw [exprY hk,exprY hk,exprY hk]
 split
 ·rfl
 ·split<;>rfl
theorem signK_nk {t:TokS} (h:nk t=q):signK t=signK q:=by subst h;rfl
theorem binL_end {k p:Nat} (hs:signK (T b)=0):parseE T (n+1) (.binL p e) ⟨b,d,k,0,0⟩=some (e,⟨b,d,k,0,0⟩):=by
 rw [parseE,if_neg (fun h=>h rfl)]
 dsimp only
 rw [show PS.tok T ⟨b,d,k,0,0⟩=T b from rfl,if_pos (.inr hs)]
theorem PE.bin1 {p:Nat} (hf:PE T (n+1) .unary a d e b) (hs:signK (T b)=0):PE T (n+2) (.binary p) a d e b:=by
 refine ⟨hf.1,fun k hk=>?_⟩
 obtain ⟨k1,hk1,g1⟩:=hf.2 k hk
 refine ⟨k1,hk1,?_⟩
 rw [parseE]
 simp only [Option.bind_eq_bind,g1,Option.bind_some]
 exact binL_end hs
theorem PE.bin2 {l:Nat} (h1:PE T (n+1) .unary a d e1 b) (hl:signK (T b)=l) (hl0:0 < l) (h2:PE T (n+1) .unary (b+1) d e2 c) (hs:signK (T c)=0) (hc:c < 2900):PE T (n+4) (.binary 1) a d (binX (T b) e1 e2) c:=by
 have hab:=h1.1
 have hbc:=h2.1
 refine ⟨by omega,fun k hk=>?_⟩
 obtain ⟨k1,hk1,g1⟩:=(h1.le (m:=n+3) (by omega)).2 k hk
 obtain ⟨k2,hk2,g2⟩:=(PE.bin1 (p:=l+1) h2 hs).2 k1 (by omega)
 refine ⟨k2+1,by omega,?_⟩
 rw [parseE]
 simp only [Option.bind_eq_bind,g1,Option.bind_some]
 rw [parseE,if_neg (fun h=>h rfl)]
 dsimp only
 rw [show PS.tok T ⟨b,d,k1,0,0⟩=T b from rfl,hl,if_neg (by omega),advY (by omega)]
 simp only [Option.bind_eq_bind,Option.bind_some,g2]
 rw [binEY (by omega)]
 simp only [Option.bind_some]
 exact binL_end hs
def stopF (t:TokS):Bool:=!(wordy t (b1 63) || (t.kind == 4 && assigns.any (fun a=>eqB t.text a)))
theorem PE.full (hf:PE T n (.binary 1) a (d+1) e b) (hs:stopF (T b)=true) (hd:d < 60):PE T (n+2) .full a d e b:=by
 refine ⟨hf.1,fun k hk=>?_⟩
 obtain ⟨k1,hk1,g1⟩:=hf.2 k hk
 refine ⟨k1,hk1,?_⟩
 unfold stopF at hs
 simp only [Bool.not_eq_true',Bool.or_eq_false_iff] at hs
 obtain ⟨s1,s2⟩:=hs
 rw [parseE,downY hd]
 simp only [Option.bind_eq_bind,Option.bind_some,ne_eq,not_true_eq_false,if_false]
 rw [parseE]
 simp only [Option.bind_eq_bind,g1,Option.bind_some]
 rw [takeN s1]
 simp only [Option.bind_some,Bool.false_eq_true,if_false]
 rw [show PS.tok T ⟨b,d+1,k1,0,0⟩=T b from rfl]
 by_cases h4:(T b).kind=4
 ·rw [h4] at s2
  have s2:(assigns.any fun a=>eqB (T b).text a)=false:=s2
  rw [if_neg (by rintro (x|x);exact absurd x (by simp);exact x h4),if_neg (by rw [s2];decide)]
  exact upEY
 ·rw [if_pos (.inr h4)]
  exact upEY
theorem PE.full1 (hf:PE T (n+1) .unary a (d+1) e b) (hk:signK (T b)=0) (hs:stopF (T b)=true) (hd:d < 60):PE T (n+4) .full a d e b:=PE.full (PE.bin1 hf hk) hs hd
theorem spec_word {w:ByteArray} {k:Nat} (h:nk (T a)=wrd w) (hw:w=bInt∨w=bChar∨w=bLong) (ha:a < 2900):specS T ⟨a,d,k,0,0⟩=some (⟨false,w,false,⟨#[]⟩,(T a).pos⟩,⟨a+1,d,k,0,0⟩):=by
 have no:∀ {s},wordy (wrd w) s=false→PS.take T ⟨a,d,k,0,0⟩ s=some (false,⟨a,d,k,0,0⟩):=fun hs=>takeN (by rw [wordy_nk h];exact hs)
 have yes:PS.take T ⟨a,d,k,0,0⟩ w=some (true,⟨a+1,d,k,0,0⟩):=takeYq (by rw [wordy_nk h];rcases hw with rfl|rfl|rfl<;>decide) (by omega)
 unfold specS specPub specSig
 rw [no (by rcases hw with rfl|rfl|rfl<;>decide)]
 simp only [Option.bind_eq_bind,Option.bind_some,Bool.false_eq_true,if_false]
 rw [no (by rcases hw with rfl|rfl|rfl<;>decide)]
 simp only [Option.map_some,Option.bind_some]
 rw [no (by rcases hw with rfl|rfl|rfl<;>decide)]
 simp only [Option.bind_some,Bool.false_eq_true,if_false]
 rw [no (by rcases hw with rfl|rfl|rfl<;>decide)]
 simp only [Option.bind_some,Bool.false_eq_true,if_false]
 rw [no (by rcases hw with rfl|rfl|rfl<;>decide)]
 simp only [Option.bind_some,Bool.false_eq_true,if_false]
 rw [no (by rcases hw with rfl|rfl|rfl<;>decide)]
 simp only [Option.bind_some]
 rcases hw with rfl|rfl|rfl
 ·rw [specW,no (by decide)]
  simp only [Option.bind_eq_bind,Option.bind_some,Bool.false_eq_true,if_false]
  rw [specW,no (by decide)]
  simp only [Option.bind_eq_bind,Option.bind_some,Bool.false_eq_true,if_false]
  rw [specW,yes]
  rfl
 ·rw [specW,yes]
  rfl
 ·rw [specW,no (by decide)]
  simp only [Option.bind_eq_bind,Option.bind_some,Bool.false_eq_true,if_false]
  rw [specW,no (by decide)]
  simp only [Option.bind_eq_bind,Option.bind_some,Bool.false_eq_true,if_false]
  rw [specW,no (by decide)]
  simp only [Option.bind_eq_bind,Option.bind_some,Bool.false_eq_true,if_false]
  rw [specW,yes]
  rfl
end
end Go.Proofs.YtgpigfcagppohaaGreatDoor
namespace Go.Proofs.YtgpigfcagppohaaGreatDoor
section
variable {T:Nat→TokS} {a b c d n m:Nat} {ks ls:List TokS} {q:TokS} {e e1 e2 e3:ExprS} {s:ByteArray} {r:Req} {x y z:StmtS} {kids:List StmtS}
theorem stop_nk {t:TokS} (h:nk t=q):stopP t=stopP q:=by subst h;rfl
theorem stopF_nk {t:TokS} (h:nk t=q):stopF t=stopF q:=by subst h;rfl
def QS (T:Nat→TokS) (n:Nat) (a d:Nat) (x:StmtS) (b:Nat):Prop:=a < b∧∀ k,k≤a→∃ k',k'+a≤k+b∧parseS T n .stmt ⟨a,d,k,0,0⟩=some (x,⟨b,d,k',0,0⟩)
def QB (T:Nat→TokS) (n:Nat) (p:Nat) (kids:List StmtS) (a d:Nat) (x:StmtS) (b:Nat):Prop:=a < b∧∀ k,k≤a→∃ k',k'+a≤k+b∧parseS T n (.block p kids) ⟨a,d,k,0,0⟩=some (x,⟨b,d,k',0,0⟩)
theorem upSY:upS (some (x,⟨a,d+1,m,0,0⟩))=some (x,⟨a,d,m,0,0⟩):=by
 unfold upS
 simp only [Option.bind_eq_bind,Option.bind_some,upY]
theorem QS.block (h:nk (T a)=sgn 123) (hf:QB T n (T a).pos [] (a+1) (d+1) x b) (hb:b < 2900) (hd:d < 59):QS T (n+1) a d x b:=by
 have hab:=hf.1
 refine ⟨by omega,fun k hk=>?_⟩
 obtain ⟨k1,hk1,g1⟩:=hf.2 (k+1) (by omega)
 refine ⟨k1,by omega,?_⟩
 rw [parseS,nodeY (by omega)]
 simp only [Option.bind_eq_bind,Option.bind_some]
 rw [downY (by omega)]
 simp only [Option.bind_some,ne_eq,not_true_eq_false,if_false]
 rw [if_neg (by rw [isY h];decide),takeYq (by rw [wordy_nk h];decide) (by omega)]
 simp only [Option.bind_some,Bool.true_eq_false,if_false]
 rw [show PS.tok T ⟨a,d,k,0,0⟩=T a from rfl,g1]
 exact upSY
theorem QB.fin {p:Nat} (h:nk (T a)=sgn 125) (ha:a < 2900):QB T (n+1) p kids a d (.mk 3 p zeroDecl none kids) (a+1)∨1000≤kids.length:=by
 rcases Nat.lt_or_ge kids.length 1000 with hl|hl
 ·refine .inl ⟨by omega,fun k hk=>⟨k,by omega,?_⟩⟩
  rw [parseS,if_neg (fun h=>h rfl),if_neg (by omega),takeYq (by rw [wordy_nk h];decide) (by omega)]
  rfl
 ·exact .inr hl
theorem QB.end {p:Nat} (h:nk (T a)=sgn 125) (ha:a < 2900) (hl:kids.length < 1000):QB T (n+1) p kids a d (.mk 3 p zeroDecl none kids) (a+1):=by
 rcases QB.fin (n:=n) (p:=p) (d:=d) (kids:=kids) h ha with h|h
 ·exact h
 ·omega
theorem QB.cons {p:Nat} (hw:wordy (T a) (b1 125)=false) (hl:kids.length < 1000) (h1:QS T n a d x b) (h2:QB T n p (kids++[x]) b d y c):QB T (n+1) p kids a d y c:=by
 have hab:=h1.1
 have hbc:=h2.1
 refine ⟨by omega,fun k hk=>?_⟩
 obtain ⟨k1,hk1,g1⟩:=h1.2 k hk
 obtain ⟨k2,hk2,g2⟩:=h2.2 k1 (by omega)
 refine ⟨k2,by omega,?_⟩
 rw [parseS,if_neg (fun h=>h rfl),if_neg (by omega),takeN hw]
 simp only [Option.bind_eq_bind,Option.bind_some,Bool.false_eq_true,if_false,g1,g2]
theorem QS.simple (hb:b < 2900) (hd:d < 59) (ht:wordy (T a) (b1 59)=false) (ht':wordy (T a) (b1 123)=false) (hab:a < b)
 (h:∀ k,k≤a+1→∃ k',k'+a≤k+(b - 1)∧retS T n (T a).pos ⟨a,d+1,k,0,0⟩=some (x,⟨b,d+1,k',0,0⟩)):QS T (n+1) a d x b:=by
 refine ⟨hab,fun k hk=>?_⟩
 obtain ⟨k1,hk1,g1⟩:=h (k+1) (by omega)
 refine ⟨k1,by omega,?_⟩
 rw [parseS,nodeY (by omega)]
 simp only [Option.bind_eq_bind,Option.bind_some]
 rw [downY (by omega)]
 simp only [Option.bind_some,ne_eq,not_true_eq_false,if_false]
 rw [if_neg (show ¬ PS.is T ⟨a,d+1,k+1,0,0⟩ (b1 59)=true by show ¬ wordy (T a) (b1 59)=true;rw [ht];decide),takeN ht']
 simp only [Option.bind_some,if_true]
 rw [show PS.tok T ⟨a,d,k,0,0⟩=T a from rfl,g1]
 exact upSY
theorem noWords_nk {k:Nat} (h:nk (T a)=q):(noWords.any fun w=>PS.is T ⟨a,d,k,0,0⟩ w)=noWords.any (wordy q):=by
 congr 1
 funext w
 exact isY h w
theorem QS.ret (h:nk (T a)=wrd bReturn) (hn:wordy (T (a+1)) (b1 59)=false) (hf:PE T n .full (a+1) (d+1) e b) (hc:nk (T b)=sgn 59) (hb:b < 2800) (hd:d < 59):QS T (n+1) a d (.mk 11 (T a).pos zeroDecl (some e) []) (b+1):=by
 have hab:=hf.1
 refine QS.simple (by omega) hd (by rw [wordy_nk h];decide) (by rw [wordy_nk h];decide) (by omega) fun k hk=>?_
 obtain ⟨k1,hk1,g1⟩:=hf.2 k (by omega)
 refine ⟨k1,by omega,?_⟩
 unfold retS
 rw [noWords_nk h,if_neg (by decide),takeYq (by rw [wordy_nk h];decide) (by omega)]
 simp only [Option.bind_eq_bind,Option.bind_some,if_true]
 rw [if_neg (show ¬ PS.is T ⟨a+1,d+1,k,0,0⟩ (b1 59)=true by show ¬ wordy (T (a+1)) (b1 59)=true;rw [hn];decide),g1]
 simp only [Option.bind_some]
 rw [wantY (by rw [wordy_nk hc];decide) (by omega)]
 rfl
theorem QS.expr (h:nk (T a)=nam s) (hf:PE T n .full a (d+1) e b) (hc:nk (T b)=sgn 59) (hb:b < 2800) (hd:d < 59):QS T (n+1) a d (.mk 1 (T a).pos zeroDecl (some e) []) (b+1):=by
 have hab:=hf.1
 have hw:∀ w,wordy (T a) w=false:=fun w=>by rw [wordy_nk h];rfl
 refine QS.simple (by omega) hd (hw _) (hw _) (by omega) fun k hk=>?_
 obtain ⟨k1,hk1,g1⟩:=hf.2 k (by omega)
 refine ⟨k1,by omega,?_⟩
 unfold retS
 rw [noWords_nk h,if_neg (show ¬ noWords.any (wordy (nam s))=true from fun h=>by cases h),takeN (hw _)]
 simp only [Option.bind_eq_bind,Option.bind_some,Bool.false_eq_true,if_false]
 unfold simpleS
 rw [show PS.tok T ⟨a,d+1,k,0,0⟩=T a from rfl,if_neg (show ¬ typedT (T a)=true by rw [typed_nk h];exact (fun x=>by cases x)),g1]
 simp only [Option.bind_eq_bind,Option.bind_some]
 rw [wantY (by rw [wordy_nk hc];decide) (by omega)]
 rfl
def declI (T:Nat→TokS) (a:Nat) (w s:ByteArray):DeclS:=⟨⟨⟨false,w,false,⟨#[]⟩,(T a).pos⟩,0,[]⟩,s,(T (a+1)).pos⟩
theorem rest_nam {k:Nat} {sp:SpecS} (h:nk (T a)=nam s) (hn:wordy (T (a+1)) (b1 91)=false) (ha:a < 2900):restS T (n+1) sp ⟨a,d,k,0,0⟩=some (⟨⟨sp,0,[]⟩,s,(T a).pos⟩,⟨a+1,d,k,0,0⟩):=by
 unfold restS
 rw [starsS,takeN (by rw [wordy_nk h];rfl)]
 simp only [Option.bind_eq_bind,Option.bind_some,Bool.false_eq_true,if_false]
 rw [takeN (by rw [wordy_nk h];rfl)]
 simp only [Option.bind_some,Bool.false_eq_true,if_false]
 unfold PS.name
 rw [if_pos ⟨rfl,kind_nk h⟩,advY (by omega)]
 simp only [Option.map_some,Option.bind_some]
 unfold dimsS
 rw [takeN hn]
 simp only [Option.bind_eq_bind,Option.bind_some,Bool.false_eq_true,if_false]
 rw [show PS.tok T ⟨a,d,k,0,0⟩=T a from rfl,text_nk h]
 rfl
theorem typed_wrd {w:ByteArray} (hw:w=bInt∨w=bChar∨w=bLong):typedT (wrd w)=true:=by rcases hw with rfl|rfl|rfl<;>decide
theorem QS.decl {w:ByteArray} (h:nk (T a)=wrd w) (hw:w=bInt∨w=bChar∨w=bLong) (hs:nk (T (a+1))=nam s) (ho:nk (T (a+2))=sgn 61) (hf:PE T (n+1) .full (a+3) (d+1) e b) (hc:nk (T b)=sgn 59) (hb:b < 2800) (hd:d < 59) :
 QS T (n+2) a d (.mk 2 (T a).pos (declI T a w s) (some e) []) (b+1):=by
 have hab:=hf.1
 refine QS.simple (by omega) hd (by rw [wordy_nk h];rcases hw with rfl|rfl|rfl<;>decide) (by rw [wordy_nk h];rcases hw with rfl|rfl|rfl<;>decide) (by omega) fun k hk=>?_
 obtain ⟨k1,hk1,g1⟩:=hf.2 k (by omega)
 refine ⟨k1,by omega,?_⟩
 unfold retS
 rw [noWords_nk h,if_neg (by rcases hw with rfl|rfl|rfl<;>decide),takeN (by rw [wordy_nk h];rcases hw with rfl|rfl|rfl<;>decide)]
 simp only [Option.bind_eq_bind,Option.bind_some,Bool.false_eq_true,if_false]
 unfold simpleS
 rw [show PS.tok T ⟨a,d+1,k,0,0⟩=T a from rfl,if_pos (by rw [typed_nk h];exact typed_wrd hw),spec_word h hw (by omega)]
 simp only [Option.bind_eq_bind,Option.bind_some]
 rw [rest_nam hs (by rw [wordy_nk ho];decide) (by omega)]
 simp only [Option.bind_some]
 rw [takeYq (by rw [wordy_nk ho];decide) (by omega)]
 simp only [Option.bind_some,if_true,g1]
 rw [wantY (by rw [wordy_nk hc];decide) (by omega)]
 rfl
theorem main_outer {gs:List DeclS} {k:Nat} (h0:nk (T a)=wrd bInt) (h1:nk (T (a+1))=nam s) (h2:nk (T (a+2))=sgn 40) (h3:nk (T (a+3))=sgn 41) (h4:nk (T (a+4))=sgn 123) (hf:QS T (n+1) (a+4) 0 x b) (hb:b < 2900) (hk:k≤a+4) :
 ∃ k',outerS T (n+1) ⟨gs,[]⟩ ⟨a,0,k,0,0⟩=some (⟨gs,[⟨⟨⟨false,bInt,false,⟨#[]⟩,(T a).pos⟩,0,[]⟩,s,(T (a+1)).pos,[],x⟩]⟩,⟨b,0,k',0,0⟩):=by
 have hab:=hf.1
 obtain ⟨k1,hk1,g1⟩:=hf.2 k hk
 refine ⟨k1,?_⟩
 unfold outerS
 rw [show PS.tok T ⟨a,0,k,0,0⟩=T a from rfl,if_neg (by rw [typed_nk h0];decide),if_neg (by rw [isY h0];decide),spec_word h0 (.inl rfl) (by omega)]
 simp only [Option.bind_eq_bind,Option.bind_some]
 rw [rest_nam h1 (by rw [wordy_nk h2];decide) (by omega)]
 simp only [Option.bind_some]
 rw [if_pos ⟨by first|rfl|trivial,by rw [isY h2];decide⟩]
 unfold functionS
 rw [wantY (by rw [wordy_nk h2];decide) (by omega)]
 simp only [Option.bind_eq_bind,Option.bind_some]
 rw [takeYq (by rw [wordy_nk h3];decide) (by omega)]
 simp only [Option.bind_some]
 unfold parsS
 simp only [if_true,Option.bind_some]
 rw [if_pos (show PS.is T ⟨a+1+1+1+1,0,k,0,0⟩ (b1 123)=true by rw [isY h4];decide),show (⟨a+1+1+1+1,0,k,0,0⟩:PS)=⟨a+4,0,k,0,0⟩ from rfl,g1]
 rfl
theorem outers_step {N n:Nat} {u u':UnitS} {st st':PS} (h0:st.fk=0) (hk:(T st.at_).kind≠0) (h:outerS T N u st=some (u',st')):outersS T N (n+1) u st=outersS T N n u' st':=by
 rw [outersS,if_neg (by rintro (x|x);exact x h0;exact hk x)]
 simp only [Option.bind_eq_bind,h,Option.bind_some]
theorem outers_end {N n:Nat} {u:UnitS} {st:PS} (hk:(T st.at_).kind=0):outersS T N (n+1) u st=some (u,st):=by
 rw [outersS,if_pos (.inr hk)]
end
def withK (T:Nat→TokS) (ks:List TokS) (i:Nat):TokS:=match ks[i]? with
 | some q=>⟨q.kind,q.text,(T i).pos,q.value,q.uns,q.long⟩
 | none=>T i
theorem withK_eq {T:Nat→TokS} {ks:List TokS} (h:Seg T 0 ks):withK T ks=T:=by
 funext i
 unfold withK
 cases hq:ks[i]? with
 | none=>rfl
 | some q =>
  have:=h i q hq
  rw [Nat.zero_add] at this
  subst this
  rfl
end Go.Proofs.YtgpigfcagppohaaGreatDoor
namespace Go.Proofs.YtgpigfcagppohaaGreatDoor
def bX:ByteArray:=b1 120
def bY:ByteArray:=b1 121
def bZ:ByteArray:=b1 122
def tI:TyS:=.int (i4 false)
def nmS (m:Nat):List (ByteArray × Nat × Nat):=(List.range m).map fun i=>(bY,i,i+1)
theorem nmS_succ (m:Nat):nmS (m+1)=nmS m++[(bY,m,m+1)]:=by
 unfold nmS
 rw [List.range_succ,List.map_append];rfl
def st3 (j m D:Nat):CS:=⟨0,0,[⟨bX,tI,0⟩],4,i4 false,List.replicate j tI,nmS m,D⟩
section
variable {N n p p' p1 p2 p3 j m D:Nat} {tk tk':TokS} {ty ty':TypeS} {kids kids':List ExprS} {x:ExprS} {v:NodeS} {d:DeclS}
theorem find_y:findL bY (nmS (m+1)).reverse=some m:=by
 rw [nmS_succ,List.reverse_append]
 show findL bY ((bY,m,m+1)::(nmS m).reverse)=_
 rw [findL,if_pos (by show eqB bY bY=true;decide)]
theorem find_no {s:ByteArray} (h:eqB bY s=false):∀ l:List Nat,findL s (l.map fun i=>(bY,i,i+1))=none
 | []=>rfl
 | i::l=>by
  rw [List.map_cons,findL,if_neg (by show ¬ eqB bY s=true;rw [h];decide),find_no h l]
theorem find_z {s:ByteArray} (h:eqB bY s=false):findL s (nmS m).reverse=none:=by
 unfold nmS
 rw [← List.map_reverse]
 exact find_no h _
theorem raw_y (h:m < j):rawM (N+1) (.mk 2 p bY tk ty kids) (st3 j (m+1) D)=some (.mk 3 p tI false eS 0 m [],st3 j (m+1) D):=by
 show varS bY p (st3 j (m+1) D)=_
 unfold varS
 rw [show (st3 j (m+1) D).nm.reverse=(nmS (m+1)).reverse from rfl,find_y]
 dsimp only
 rw [show (st3 j (m+1) D).lc[m]?=some tI by show (List.replicate j tI)[m]?=_;rw [List.getElem?_replicate,if_pos h]]
 rfl
theorem ex_y (h:m < j):exprM (rawM (N+1)) (.mk 2 p bY tk ty kids) (st3 j (m+1) D)=some (.mk 7 p tI false eS 0 0 [.mk 3 p tI false eS 0 m []],st3 j (m+1) D):=by
 unfold exprM
 rw [raw_y h]
 rfl
theorem ex_x:exprM (rawM (N+1)) (.mk 2 p bX tk ty kids) (st3 0 0 D)=some (.mk 7 p tI false eS 0 0 [.mk 2 p tI false eS 0 0 []],st3 0 0 D):=by
 rfl
theorem ex_num (hu:tk.uns=false) (hl:tk.long=false) (hv:tk.value < 2147483648) {st:CS} (hs:st.fk=0):exprM (rawM (N+1)) (.mk 1 p ⟨#[]⟩ tk ty kids) st=some (.mk 1 p tI false eS tk.value 0 [],st):=by
 have:rawM (N+1) (.mk 1 p ⟨#[]⟩ tk ty kids) st=some (.mk 1 p tI false eS tk.value 0 [],st):=by
  show (if tk.uns=false∧tk.long=false∧tk.value < 2147483648 then some (NodeS.mk 1 p (.int (i4 false)) false eS tk.value 0 [],st) else none)=_
  rw [if_pos ⟨hu,hl,hv⟩];rfl
 unfold exprM
 rw [this]
 simp only [Option.bind_eq_bind,Option.bind_some]
 rw [if_pos (.inr rfl)]
theorem ok_of {R:ExprS→CS→Option (NodeS × CS)} {st:CS} (h:exprM R x st=some (v,st)) (hs:st.fk=0):okM R x st=some (v,st):=by
 unfold okM
 rw [h]
 simp only [Option.bind_eq_bind,Option.bind_some]
 rw [if_neg (fun x=>x hs)]
theorem ex_y1 (h:m < j) (hu:tk'.uns=false) (hl:tk'.long=false) (hv:tk'.value < 2147483648):∃ v,exprM (rawM (N+2)) (.mk 12 p (b1 43) tk ty [.mk 2 p1 bY zeroTok zeroType [],.mk 1 p2 ⟨#[]⟩ tk' zeroType []]) (st3 j (m+1) D)=some (v,st3 j (m+1) D)∧v.ty=tI:=by
 have h1:=ok_of (ex_y (N:=N) (p:=p1) (tk:=zeroTok) (ty:=zeroType) (kids:=[]) (D:=D) h) rfl
 have h2:=ok_of (ex_num (N:=N) (p:=p2) (tk:=tk') (ty:=zeroType) (kids:=[]) hu hl hv (st:=st3 j (m+1) D) rfl) rfl
 have hr:∃ v,rawM (N+2) (.mk 12 p (b1 43) tk ty [.mk 2 p1 bY zeroTok zeroType [],.mk 1 p2 ⟨#[]⟩ tk' zeroType []]) (st3 j (m+1) D)=some (v,st3 j (m+1) D)∧v.ty=tI∧placeS v=false:=by
  show ∃ v,binaryM (rawM (N+1)) p (b1 43) [.mk 2 p1 bY zeroTok zeroType [],.mk 1 p2 ⟨#[]⟩ tk' zeroType []] (st3 j (m+1) D)=some (v,_)∧_
  unfold binaryM
  dsimp only
  rw [h1]
  simp only [Option.bind_eq_bind,Option.bind_some]
  rw [h2]
  simp only [Option.bind_eq_bind,Option.bind_some]
  exact ⟨_,rfl,rfl,rfl⟩
 obtain ⟨v,hv1,hv2,hv3⟩:=hr
 refine ⟨v,?_,hv2⟩
 unfold exprM
 rw [hv1]
 simp only [Option.bind_eq_bind,Option.bind_some]
 rw [if_pos (.inr hv3)]
theorem bytes_rep:∀ j,bytesS (List.replicate j tI)=some (8 * j)
 | 0=>rfl
 | j+1=>by
  rw [List.replicate_succ,bytesS,bytes_rep j]
  show some (8+8 * j)=_
  congr 1;omega
theorem any_fresh:(nmS m).any (fun x=>eqB x.1 bY && x.2.2 == m+1)=false:=by
 rw [List.any_eq_false]
 intro x hx
 unfold nmS at hx
 obtain ⟨i,hi,rfl⟩:=List.mem_map.1 hx
 have:=List.mem_range.1 hi
 simp;omega
theorem any_out:(nmS m).any (fun x=>eqB x.1 bOut)=false:=by
 rw [List.any_eq_false]
 intro x hx
 unfold nmS at hx
 obtain ⟨i,hi,rfl⟩:=List.mem_map.1 hx
 show ¬ eqB bY bOut=true
 decide
theorem local_ok (hm:m < 50) (hn:d.name=bY):localS d tI (st3 m m (m+1))=some (m,st3 (m+1) (m+1) (m+1)):=by
 unfold localS
 rw [hn]
 rw [show (st3 m m (m+1)).nm.any (fun x=>eqB x.1 bY && x.2.2 == (st3 m m (m+1)).depth)=false from any_fresh]
 simp only [Bool.false_eq_true,if_false,Option.bind_eq_bind]
 rw [show sizeS tI=some 4 from rfl]
 simp only [Option.bind_some]
 rw [if_neg (show ¬ (st3 m m (m+1)).fk≠0 from fun h=>h rfl),if_neg (by
  show ¬ (100≤(List.replicate m tI).length∨100≤(nmS m).length)
  unfold nmS
  simp;omega),show bytesS (st3 m m (m+1)).lc=some (8 * m) from bytes_rep m]
 simp only [Option.bind_some]
 rw [if_neg (show ¬ 4096 < 8 * m+upS8 4 by show ¬ 4096 < 8 * m+8;omega)]
 rw [show (st3 m m (m+1)).lc=List.replicate m tI from rfl,show (st3 m m (m+1)).nm=nmS m from rfl,List.length_replicate]
 rw [show ([(bY,m,(st3 m m (m+1)).depth)]:List (ByteArray × Nat × Nat))=[(bY,m,m+1)] from rfl,← nmS_succ,← List.replicate_succ']
 rfl
theorem local_twice (hm:m < 50) (hn:d.name=bY):∃ st',localS d tI (st3 (m+1) (m+1) (m+1))=some (0,st')∧st'.fk=13:=by
 unfold localS
 rw [hn]
 have:(st3 (m+1) (m+1) (m+1)).nm.any (fun x=>eqB x.1 bY && x.2.2 == (st3 (m+1) (m+1) (m+1)).depth)=true:=by
  rw [show (st3 (m+1) (m+1) (m+1)).nm=nmS m++[(bY,m,m+1)] from nmS_succ m,List.any_append]
  show (_ || (eqB bY bY && (m+1 == m+1) || false))=true
  rw [show eqB bY bY=true by decide]
  simp
 rw [this]
 simp only [if_true,Option.bind_eq_bind]
 rw [show sizeS tI=some 4 from rfl]
 simp only [Option.bind_some]
 exact ⟨_,if_pos (show ((st3 (m+1) (m+1) (m+1)).fail 13 d.pos).fk≠0 from (by decide:(13:Nat)≠0)),rfl⟩
theorem let_ok (hm:m < 50) (hn:d.name=bY) (ht:typS d.ty=some tI) (hx:exprM (rawM N) x (st3 m m (m+1))=some (v,st3 m m (m+1))) (hv:v.ty=tI):∃ b,letM N p d (some x) (st3 m m (m+1))=some (b,st3 (m+1) (m+1) (m+1)):=by
 unfold letM
 rw [ht]
 simp only [Option.bind_eq_bind,Option.bind_some]
 rw [hx]
 simp only [Option.bind_some]
 rw [if_neg (show ¬ (st3 m m (m+1)).fk≠0 from fun h=>h rfl),local_ok hm hn]
 simp only [Option.bind_some]
 rw [if_neg (show ¬ (st3 (m+1) (m+1) (m+1)).fk≠0 from fun h=>h rfl)]
 unfold assignS
 rw [show NodeS.hid (.mk 3 d.pos tI false eS 0 m [])=false from rfl]
 simp only [Bool.false_eq_true,if_false,Option.bind_eq_bind]
 unfold becomeS
 rw [show NodeS.ty (.mk 3 d.pos tI false eS 0 m [])=.int (i4 false) from rfl,hv]
 dsimp only [tI]
 rw [if_neg (by decide)]
 unfold convS
 rw [hv]
 exact ⟨_,rfl⟩
theorem let_twice (hm:m < 50) (hn:d.name=bY) (ht:typS d.ty=some tI) (hx:exprM (rawM N) x (st3 (m+1) (m+1) (m+1))=some (v,st3 (m+1) (m+1) (m+1))):∃ b st',letM N p d (some x) (st3 (m+1) (m+1) (m+1))=some (b,st')∧st'.fk=13:=by
 obtain ⟨st',h1,h2⟩:=local_twice (d:=d) hm hn
 unfold letM
 rw [ht]
 simp only [Option.bind_eq_bind,Option.bind_some]
 rw [hx]
 simp only [Option.bind_some]
 rw [if_neg (show ¬ (st3 (m+1) (m+1) (m+1)).fk≠0 from fun h=>h rfl),h1]
 simp only [Option.bind_some]
 exact ⟨_,_,if_pos (by rw [h2];decide),h2⟩
theorem out_ok (h:m < j):∃ b,stmtM (N+3) (n+1) (.mk 1 p zeroDecl (some (.mk 3 p1 ⟨#[]⟩ zeroTok zeroType [.mk 2 p2 bOut zeroTok zeroType [],.mk 2 p3 bY zeroTok zeroType []])) []) (st3 j (m+1) D)=some (b,st3 j (m+1) D):=by
 have hr:∃ v,rawM (N+3) (.mk 3 p1 ⟨#[]⟩ zeroTok zeroType [.mk 2 p2 bOut zeroTok zeroType [],.mk 2 p3 bY zeroTok zeroType []]) (st3 j (m+1) D)=some (v,st3 j (m+1) D)∧placeS v=false:=by
  show ∃ v,callM (rawM (N+2)) p1 [.mk 2 p2 bOut zeroTok zeroType [],.mk 2 p3 bY zeroTok zeroType []] (st3 j (m+1) D)=some (v,_)∧_
  unfold callM
  dsimp only
  rw [if_neg (by
   rintro (x|x|x)
   ·exact x rfl
   ·exact absurd x (by decide)
   ·rw [show (st3 j (m+1) D).nm=nmS (m+1) from rfl,any_out] at x;cases x)]
  unfold outM intM
  rw [ok_of (ex_y (N:=N+1) (p:=p3) (tk:=zeroTok) (ty:=zeroType) (kids:=[]) (D:=D) h) rfl]
  exact ⟨_,rfl,rfl⟩
 obtain ⟨v,h1,h2⟩:=hr
 have he:exprM (rawM (N+3)) (.mk 3 p1 ⟨#[]⟩ zeroTok zeroType [.mk 2 p2 bOut zeroTok zeroType [],.mk 2 p3 bY zeroTok zeroType []]) (st3 j (m+1) D)=some (v,st3 j (m+1) D):=by
  unfold exprM
  rw [h1]
  simp only [Option.bind_eq_bind,Option.bind_some]
  rw [if_pos (.inr h2)]
 refine ⟨.mk 1 p 0 (some v) [],?_⟩
 rw [stmtM,if_pos rfl]
 dsimp only
 rw [he]
 rfl
theorem ret_y (h:m < j):∃ b,stmtM (N+1) (n+1) (.mk 11 p zeroDecl (some (.mk 2 p1 bY zeroTok zeroType [])) []) (st3 j (m+1) D)=some (b,st3 j (m+1) D):=by
 rw [stmtM,if_neg (by decide),if_neg (by decide),if_neg (by decide),if_pos rfl]
 dsimp only
 rw [ex_y h]
 exact ⟨_,rfl⟩
theorem ret_z:∃ b st',stmtM (N+1) (n+1) (.mk 11 p zeroDecl (some (.mk 2 p1 bZ zeroTok zeroType [])) []) (st3 j m D)=some (b,st')∧st'.fk=12:=by
 rw [stmtM,if_neg (by decide),if_neg (by decide),if_neg (by decide),if_pos rfl]
 dsimp only
 have:exprM (rawM (N+1)) (.mk 2 p1 bZ zeroTok zeroType []) (st3 j m D)=some (.mk 0 p1 .void false eS 0 0 [],(st3 j m D).fail 12 p1):=by
  unfold exprM
  rw [show rawM (N+1) (.mk 2 p1 bZ zeroTok zeroType []) (st3 j m D)=varS bZ p1 (st3 j m D) from rfl]
  unfold varS
  rw [show (st3 j m D).nm.reverse=(nmS m).reverse from rfl,find_z (by decide)]
  rfl
 rw [this]
 exact ⟨_,_,rfl,rfl⟩
theorem leave_nm:leaveS (st3 j (m+1) (m+1))=st3 j m m:=by
 unfold leaveS
 have h1:(st3 j (m+1) (m+1)).nm.reverse=(bY,m,m+1)::(nmS m).reverse:=by
  show (nmS (m+1)).reverse=_
  rw [nmS_succ,List.reverse_append];rfl
 rw [h1]
 have h2:(((bY,m,m+1)::(nmS m).reverse).dropWhile (fun x=>decide ((st3 j (m+1) (m+1)).depth - 1 < x.2.2)))=(nmS m).reverse:=by
  rw [List.dropWhile_cons,if_pos (by show decide (m+1 - 1 < m+1)=true;simp)]
  cases m with
  | zero=>rfl
  | succ k =>
   rw [show (nmS (k+1)).reverse=(bY,k,k+1)::(nmS k).reverse by rw [nmS_succ,List.reverse_append];rfl,List.dropWhile_cons,if_neg (by show ¬ decide (k+1+1 - 1 < k+1)=true;simp)]
 rw [h2,List.reverse_reverse]
 rfl
theorem leave_fk {st:CS}:(leaveS st).fk=st.fk:=rfl
end
end Go.Proofs.YtgpigfcagppohaaGreatDoor
