/-
  What the functions that the law reaches compute,told by plain data;it holds of programs that pass the check of right form and are light.
-/
import Derived.Test.YtgpigfcagppohaaGreatDoorR3
import Derived.Test.YtgpigfcagppohaaGreatDoorR37
set_option linter.unusedVariables false
set_option linter.unusedSimpArgs false
namespace Go.Proofs.YtgpigfcagppohaaGreatDoor
section
variable {T:Nat→TokS} {a b c d n m:Nat} {ks ls:List TokS} {q:TokS} {e e1 e2 e3:ExprS} {s:ByteArray} {r:Req}
def PE (T:Nat→TokS) (n:Nat) (r:Req) (a d:Nat) (e:ExprS) (b:Nat):Prop:=a < b∧∀ k,k≤a+1→∃ k',k'+a≤k+b∧parseE T n r ⟨a,d,k,0,0⟩=some (e,⟨b,d,k',0,0⟩)
theorem PE.le (h:PE T n r a d e b) (hm:n≤m):PE T m r a d e b:=by
 refine ⟨h.1,fun k hk=>?_⟩
 obtain ⟨k',h1,h2⟩:=h.2 k hk
 refine ⟨k',h1,?_⟩
 obtain ⟨j,rfl⟩:∃ j,m=n+j:=⟨m - n,by omega⟩
 clear hm
 induction j with
 | zero=>exact h2
 | succ j ih=>exact parse_le _ _ _ _ ih
def stopP (t:TokS):Bool:=!(wordy t (b1 91) || wordy t (b1 46) || wordy t (b2 45 62) || wordy t (b2 43 43) || wordy t (b2 45 45) || wordy t (b1 40))
theorem post_end (hq:stopP (T a)=true) {k:Nat}:parseE T (n+1) (.post e) ⟨a,d,k,0,0⟩=some (e,⟨a,d,k,0,0⟩):=by
 unfold stopP at hq
 simp only [Bool.not_eq_true',Bool.or_eq_false_iff] at hq
 obtain ⟨⟨⟨⟨⟨h1,h2⟩,h3⟩,h4⟩,h5⟩,h6⟩:=hq
 rw [parseE]
 simp only [PS.is,PS.tok,h1,h2,h3,h4,h5,h6]
 simp
def plainT (t t':TokS):Bool:=!((t.kind == 4 && unaries.any (fun a=>eqB t.text a)) || (t.kind == 4 && (eqB t.text (b2 43 43) || eqB t.text (b2 45 45))) || (t.kind == 4 && eqB t.text (b1 40) && typedT t') || wordy t bSizeof)
theorem PE.prim (hp:plainT (T a) (T (a+1))=true) (h1:a≤b) (hb:b < 3000) (hd:d < 60) (hbc:b≤c) (hac:a < c)
 (h:∀ k,k≤a+1→∃ k',k'+a≤k+b∧parseE T n .primary ⟨a,d+1,k,0,0⟩=some (e1,⟨b,d+1,k',0,0⟩))
 (h':∀ k,k≤b+1→∃ k',k'+b≤k+c∧parseE T n (.post e1) ⟨b,d+1,k,0,0⟩=some (e,⟨c,d+1,k',0,0⟩)):PE T (n+1) .unary a d e c:=by
 refine ⟨hac,fun k hk=>?_⟩
 obtain ⟨k1,hk1,g1⟩:=h k hk
 obtain ⟨k2,hk2,g2⟩:=h' k1 (by omega)
 refine ⟨k2,by omega,?_⟩
 unfold plainT at hp
 simp only [Bool.not_eq_true',Bool.or_eq_false_iff] at hp
 obtain ⟨⟨⟨p1,p2⟩,p3⟩,p4⟩:=hp
 have q1:¬ ((T a).kind=4∧unaries.any (fun x=>eqB (T a).text x)=true):=by rintro ⟨x,y⟩;rw [x,y] at p1;exact absurd p1 (by decide)
 have q2:¬ ((T a).kind=4∧(eqB (T a).text (b2 43 43) || eqB (T a).text (b2 45 45))=true):=by rintro ⟨x,y⟩;rw [x,y] at p2;exact absurd p2 (by decide)
 have q3:¬ ((T a).kind=4∧eqB (T a).text (b1 40)=true∧typedT (T (a+1))=true):=by rintro ⟨x,y,z⟩;rw [x,y,z] at p3;exact absurd p3 (by decide)
 have q4:¬ ((T a).kind=4∧eqB (T a).text (b1 40)=true∧¬ a < 1000000):=by rintro ⟨_,_,z⟩;exact z (by omega)
 rw [parseE,downY hd]
 simp only [Option.bind_eq_bind,Option.bind_some,PS.tok,ne_eq,not_true_eq_false,if_false]
 rw [if_neg q1,if_neg q2,if_neg q3,if_neg q4,takeN p4]
 simp only [Option.bind_some,Bool.false_eq_true,if_false,g1,g2]
 exact upEY
theorem prim_nam (h:nk (T a)=nam s) (ha:a < 3000) (k:Nat) (hk:k≤a+1):parseE T (n+1) .primary ⟨a,d,k,0,0⟩=some (.mk 2 (T a).pos s zeroTok zeroType [],⟨a+1,d,k+1,0,0⟩):=by
 rw [parseE]
 rw [show PS.tok T ⟨a,d,k,0,0⟩=T a from rfl,if_neg (show ¬ (T a).kind=3 by rw [kind_nk h];exact (by decide:¬ (1:Nat)=3)),if_pos (show (T a).kind=1 from kind_nk h),advY (by omega)]
 simp only [Option.bind_eq_bind,Option.bind_some]
 rw [exprY (by omega),text_nk h];rfl
theorem prim_num {v:Nat} (h:nk (T a)=num s v) (ha:a < 3000) (k:Nat) (hk:k≤a+1):parseE T (n+1) .primary ⟨a,d,k,0,0⟩=some (.mk 1 (T a).pos ⟨#[]⟩ (T a) zeroType [],⟨a+1,d,k+1,0,0⟩):=by
 rw [parseE]
 rw [show PS.tok T ⟨a,d,k,0,0⟩=T a from rfl,if_pos (show (T a).kind=3 from kind_nk h),advY (by omega)]
 simp only [Option.bind_eq_bind,Option.bind_some]
 rw [exprY (by omega)];rfl
theorem plain_nam (h:nk (T a)=nam s) {t:TokS}:plainT (T a) t=true:=by
 have h1:(T a).kind=1:=kind_nk h
 unfold plainT wordy
 rw [h1];rfl
theorem plain_num {v:Nat} (h:nk (T a)=num s v) {t:TokS}:plainT (T a) t=true:=by
 have h1:(T a).kind=3:=kind_nk h
 unfold plainT wordy
 rw [h1];rfl
theorem PE.nam (h:nk (T a)=nam s) (hp:stopP (T (a+1))=true) (ha:a < 2900) (hd:d < 60):PE T (n+2) .unary a d (.mk 2 (T a).pos s zeroTok zeroType []) (a+1) :=
 PE.prim (plain_nam h) (Nat.le_succ a) (by omega) hd (Nat.le_refl _) (Nat.lt_succ_self a) (fun k hk=>⟨k+1,by omega,prim_nam h (by omega) k hk⟩) fun k hk=>⟨k,by omega,post_end hp⟩
theorem PE.num {v:Nat} (h:nk (T a)=num s v) (hp:stopP (T (a+1))=true) (ha:a < 2900) (hd:d < 60):PE T (n+2) .unary a d (.mk 1 (T a).pos ⟨#[]⟩ (T a) zeroType []) (a+1) :=
 PE.prim (plain_num h) (Nat.le_succ a) (by omega) hd (Nat.le_refl _) (Nat.lt_succ_self a) (fun k hk=>⟨k+1,by omega,prim_num h (by omega) k hk⟩) fun k hk=>⟨k,by omega,post_end hp⟩
theorem plain_par (h:nk (T a)=sgn 40) (ht:typedT (T (a+1))=false):plainT (T a) (T (a+1))=true:=by
 unfold plainT
 rw [ht,wordy_nk h,kind_nk h,text_nk h];decide
theorem PE.paren (h:nk (T a)=sgn 40) (ht:typedT (T (a+1))=false) (hf:PE T n .full (a+1) (d+1) e b) (hc:nk (T b)=sgn 41) (hp:stopP (T (b+1))=true) (hb:b < 2900) (hd:d < 59):PE T (n+3) .unary a d e (b+1):=by
 have hab:=hf.1
 refine PE.prim (b:=b+1) (e1:=e) (plain_par h ht) (by omega) (by omega) (by omega) (Nat.le_refl _) (by omega) (fun k hk=>?_) fun k hk=>⟨k,by omega,post_end hp⟩
 obtain ⟨k1,hk1,g1⟩:=hf.2 k (by omega)
 refine ⟨k1,by omega,?_⟩
 rw [parseE,show PS.tok T ⟨a,d+1,k,0,0⟩=T a from rfl,if_neg (by rw [kind_nk h];decide),if_neg (by rw [kind_nk h];decide),if_pos (show PS.is T ⟨a,d+1,k,0,0⟩ (b1 40)=true by rw [isY h];decide),parseE,wantY (by rw [wordy_nk h];decide) (by omega)]
 simp only [Option.bind_eq_bind,Option.bind_some,g1]
 rw [wantY (by rw [wordy_nk hc];decide) (by omega)];rfl
theorem PE.index (h:nk (T a)=Proofs.YtgpigfcagppohaaGreatDoor.nam s) (ho:nk (T (a+1))=sgn 91) (hf:PE T n .full (a+2) (d+1) e b) (hc:nk (T b)=sgn 93) (hp:stopP (T (b+1))=true) (hb:b < 2900) (hd:d < 59) :
 PE T (n+2) .unary a d (.mk 4 (T (a+1)).pos ⟨#[]⟩ zeroTok zeroType [.mk 2 (T a).pos s zeroTok zeroType [],e]) (b+1):=by
 have hab:=hf.1
 refine (PE.prim (n:=n+1) (b:=a+1) (plain_nam h) (by omega) (by omega) (by omega) (by omega) (by omega) (fun k hk=>⟨k+1,by omega,prim_nam h (by omega) k hk⟩) fun k hk=>?_)
 obtain ⟨k1,hk1,g1⟩:=hf.2 k (by omega)
 refine ⟨k1+1,by omega,?_⟩
 rw [parseE,if_neg (fun h=>h rfl),if_pos (show PS.is T ⟨a+1,d+1,k,0,0⟩ (b1 91)=true by rw [isY ho];decide),advY (by omega)]
 simp only [Option.bind_eq_bind,Option.bind_some,g1]
 rw [wantY (by rw [wordy_nk hc];decide) (by omega)]
 simp only [Option.bind_some]
 rw [exprY (by omega)]
 simp only [Option.bind_some]
 obtain ⟨n,rfl⟩:∃ j,n=j+1:=by
  cases n with
  | zero=>rw [parseE] at g1;cases g1
  | succ j=>exact ⟨j,rfl⟩
 exact post_end hp
theorem PE.call (h:nk (T a)=Proofs.YtgpigfcagppohaaGreatDoor.nam s) (ho:nk (T (a+1))=sgn 40) (hn:wordy (T (a+2)) (b1 41)=false) (hf:PE T n .full (a+2) (d+1) e b) (hc:nk (T b)=sgn 41) (hp:stopP (T (b+1))=true) (hb:b < 2900) (hd:d < 59) :
 PE T (n+2) .unary a d (.mk 3 (T (a+1)).pos ⟨#[]⟩ zeroTok zeroType [.mk 2 (T a).pos s zeroTok zeroType [],e]) (b+1):=by
 have hab:=hf.1
 refine (PE.prim (n:=n+1) (b:=a+1) (plain_nam h) (by omega) (by omega) (by omega) (by omega) (by omega) (fun k hk=>⟨k+1,by omega,prim_nam h (by omega) k hk⟩) fun k hk=>?_)
 obtain ⟨k1,hk1,g1⟩:=hf.2 k (by omega)
 refine ⟨k1+1,by omega,?_⟩
 have hno:∀ s,wordy (sgn 40) s=false→¬ PS.is T ⟨a+1,d+1,k,0,0⟩ s=true:=fun s hs=>by rw [isY ho,hs];decide
 rw [parseE,if_neg (fun h=>h rfl),if_neg (hno _ (by decide)),if_neg (by
  rw [isY ho,isY ho,isY ho,isY ho];decide),if_pos (show PS.is T ⟨a+1,d+1,k,0,0⟩ (b1 40)=true by rw [isY ho];decide),advY (by omega)]
 simp only [Option.bind_eq_bind,Option.bind_some]
 rw [if_neg (show ¬ PS.is T ⟨a+1+1,d+1,k,0,0⟩ (b1 41)=true by
  show ¬ wordy (T (a+2)) (b1 41)=true
  rw [hn];decide),g1]
 simp only [Option.bind_some]
 rw [if_neg (by
  rintro (x|x)
  ·exact x rfl
  ·rw [isY hc] at x;exact absurd x (by decide)),advY (by omega)]
 simp only [Option.bind_some]
 rw [exprY (by omega)]
 simp only [Option.bind_some]
 obtain ⟨n,rfl⟩:∃ j,n=j+1:=by
  cases n with
  | zero=>rw [parseE] at g1;cases g1
  | succ j=>exact ⟨j,rfl⟩
 exact post_end hp
theorem PE.sign {x:UInt8} (h:nk (T a)=sgn x) (hx:unaries.any (fun y=>eqB (b1 x) y)=true) (hf:PE T n .unary (a+1) (d+1) e b) (hb:b < 2900) (hd:d < 59):PE T (n+1) .unary a d (.mk 7 (T a).pos (b1 x) zeroTok zeroType [e]) b:=by
 have hab:=hf.1
 refine ⟨by omega,fun k hk=>?_⟩
 obtain ⟨k1,hk1,g1⟩:=hf.2 k (by omega)
 refine ⟨k1+1,by omega,?_⟩
 rw [parseE,downY (by omega)]
 simp only [Option.bind_eq_bind,Option.bind_some,PS.tok,ne_eq,not_true_eq_false,if_false]
 rw [if_pos ⟨kind_nk h,by rw [text_nk h];exact hx⟩,advY (by omega)]
 simp only [Option.bind_some,g1]
 rw [exprY (by omega),text_nk h]
 exact upEY
def binX (t:TokS) (e r:ExprS):ExprS:=if eqB t.text (b2 124 124) then .mk 14 t.pos ⟨#[]⟩ zeroTok zeroType [e,r] else if eqB t.text (b2 38 38) then .mk 13 t.pos ⟨#[]⟩ zeroTok zeroType [e,r] else .mk 12 t.pos t.text zeroTok zeroType [e,r]
theorem binEY {t:TokS} {k:Nat} (hk:k < 6000):binE T t e1 e2 ⟨a,d,k,0,0⟩=some (binX t e1 e2,⟨a,d,k+1,0,0⟩):=by
 unfold binE binX
 rw [exprY hk,exprY hk,exprY hk]
 split
 ·rfl
 ·split<;>rfl
theorem signK_nk {t:TokS} (h:nk t=q):signK t=signK q:=by subst h;rfl
theorem binL_end {k p:Nat} (hs:signK (T b)=0):parseE T (n+1) (.binL p e) ⟨b,d,k,0,0⟩=some (e,⟨b,d,k,0,0⟩):=by
 rw [parseE,if_neg (fun h=>h rfl)]
 dsimp only
 rw [show PS.tok T ⟨b,d,k,0,0⟩=T b from rfl,if_pos (.inr hs)]
theorem PE.bin1 {p:Nat} (hf:PE T (n+1) .unary a d e b) (hs:signK (T b)=0):PE T (n+2) (.binary p) a d e b:=by
 refine ⟨hf.1,fun k hk=>?_⟩
 obtain ⟨k1,hk1,g1⟩:=hf.2 k hk
 refine ⟨k1,hk1,?_⟩
 rw [parseE]
 simp only [Option.bind_eq_bind,g1,Option.bind_some]
 exact binL_end hs
theorem PE.bin2 {l:Nat} (h1:PE T (n+1) .unary a d e1 b) (hl:signK (T b)=l) (hl0:0 < l) (h2:PE T (n+1) .unary (b+1) d e2 c) (hs:signK (T c)=0) (hc:c < 2900):PE T (n+4) (.binary 1) a d (binX (T b) e1 e2) c:=by
 have hab:=h1.1
 have hbc:=h2.1
 refine ⟨by omega,fun k hk=>?_⟩
 obtain ⟨k1,hk1,g1⟩:=(h1.le (m:=n+3) (by omega)).2 k hk
 obtain ⟨k2,hk2,g2⟩:=(PE.bin1 (p:=l+1) h2 hs).2 k1 (by omega)
 refine ⟨k2+1,by omega,?_⟩
 rw [parseE]
 simp only [Option.bind_eq_bind,g1,Option.bind_some]
 rw [parseE,if_neg (fun h=>h rfl)]
 dsimp only
 rw [show PS.tok T ⟨b,d,k1,0,0⟩=T b from rfl,hl,if_neg (by omega),advY (by omega)]
 simp only [Option.bind_eq_bind,Option.bind_some,g2]
 rw [binEY (by omega)]
 simp only [Option.bind_some]
 exact binL_end hs
def stopF (t:TokS):Bool:=!(wordy t (b1 63) || (t.kind == 4 && assigns.any (fun a=>eqB t.text a)))
theorem PE.full (hf:PE T n (.binary 1) a (d+1) e b) (hs:stopF (T b)=true) (hd:d < 60):PE T (n+2) .full a d e b:=by
 refine ⟨hf.1,fun k hk=>?_⟩
 obtain ⟨k1,hk1,g1⟩:=hf.2 k hk
 refine ⟨k1,hk1,?_⟩
 unfold stopF at hs
 simp only [Bool.not_eq_true',Bool.or_eq_false_iff] at hs
 obtain ⟨s1,s2⟩:=hs
 rw [parseE,downY hd]
 simp only [Option.bind_eq_bind,Option.bind_some,ne_eq,not_true_eq_false,if_false]
 rw [parseE]
 simp only [Option.bind_eq_bind,g1,Option.bind_some]
 rw [takeN s1]
 simp only [Option.bind_some,Bool.false_eq_true,if_false]
 rw [show PS.tok T ⟨b,d+1,k1,0,0⟩=T b from rfl]
 by_cases h4:(T b).kind=4
 ·rw [h4] at s2
  have s2:(assigns.any fun a=>eqB (T b).text a)=false:=s2
  rw [if_neg (by rintro (x|x);exact absurd x (by simp);exact x h4),if_neg (by rw [s2];decide)]
  exact upEY
 ·rw [if_pos (.inr h4)]
  exact upEY
theorem PE.full1 (hf:PE T (n+1) .unary a (d+1) e b) (hk:signK (T b)=0) (hs:stopF (T b)=true) (hd:d < 60):PE T (n+4) .full a d e b:=PE.full (PE.bin1 hf hk) hs hd
theorem PE.assign (hf:PE T (n+1) .unary a (d+1) e1 b) (ho:nk (T b)=sgn 61) (h2:PE T (n+3) .full (b+1) (d+1) e2 c) (hc:c < 2900) (hd:d < 60):PE T (n+4) .full a d (.mk 16 (T b).pos ⟨#[]⟩ zeroTok zeroType [e1,e2]) c:=by
 have hab:=hf.1
 have hbc:=h2.1
 refine ⟨by omega,fun k hk=>?_⟩
 obtain ⟨k1,hk1,g1⟩:=(PE.bin1 (p:=1) hf (by rw [signK_nk ho];decide)).2 k hk
 obtain ⟨k2,hk2,g2⟩:=h2.2 k1 (by omega)
 refine ⟨k2+1,by omega,?_⟩
 rw [parseE,downY hd]
 simp only [Option.bind_eq_bind,Option.bind_some,ne_eq,not_true_eq_false,if_false]
 rw [parseE]
 simp only [Option.bind_eq_bind,g1,Option.bind_some]
 rw [takeN (by rw [wordy_nk ho];decide)]
 simp only [Option.bind_some,Bool.false_eq_true,if_false]
 rw [show PS.tok T ⟨b,d+1,k1,0,0⟩=T b from rfl,if_neg (by
  rintro (x|x)
  ·exact absurd x (by simp)
  ·exact x (kind_nk ho)),text_nk ho,if_pos (by decide),if_pos (by decide),advY (by omega)]
 simp only [Option.bind_some,g2]
 rw [exprY (by omega)]
 exact upEY
theorem PE.choice {a3:Nat} (hf:PE T (n+4) .unary a (d+1) e1 b) (ho:nk (T b)=sgn 63) (h2:PE T (n+5) .full (b+1) (d+1) e2 c) (hm:nk (T c)=sgn 58) (h3:PE T (n+3) .unary (c+1) (d+2) e3 a3) (hs:stopF (T a3)=true) (hk3:signK (T a3)=0) (hc:a3 < 2900) (hd:d < 59) :
 PE T (n+7) .full a d (.mk 15 (T b).pos ⟨#[]⟩ zeroTok zeroType [e1,e2,e3]) a3:=by
 have hab:=hf.1
 have hbc:=h2.1
 have hcd:=h3.1
 refine ⟨by omega,fun k hk=>?_⟩
 obtain ⟨k1,hk1,g1⟩:=(PE.bin1 (p:=1) hf (by rw [signK_nk ho];decide)).2 k hk
 obtain ⟨k2,hk2,g2⟩:=h2.2 k1 (by omega)
 obtain ⟨k3,hk3,g3⟩:=(PE.bin1 (p:=1) h3 hk3).2 k2 (by omega)
 unfold stopF at hs
 simp only [Bool.not_eq_true',Bool.or_eq_false_iff] at hs
 obtain ⟨s1,s2⟩:=hs
 refine ⟨k3+1,by omega,?_⟩
 rw [parseE,downY (by omega)]
 simp only [Option.bind_eq_bind,Option.bind_some,ne_eq,not_true_eq_false,if_false]
 rw [parseE]
 simp only [Option.bind_eq_bind,g1,Option.bind_some]
 rw [takeYq (by rw [wordy_nk ho];decide) (by omega)]
 simp only [Option.bind_some,if_true,g2]
 rw [wantY (by rw [wordy_nk hm];decide) (by omega)]
 simp only [Option.bind_some]
 rw [downY (by omega)]
 simp only [Option.bind_some,not_true_eq_false,if_false]
 have g4:parseE T (n+5) .choice ⟨c+1,d+1+1,k2,0,0⟩=some (e3,⟨a3,d+1+1,k3,0,0⟩):=by
  rw [parseE]
  simp only [Option.bind_eq_bind,g3,Option.bind_some]
  rw [takeN s1]
  simp only [Option.bind_some,Bool.false_eq_true,if_false]
 rw [g4]
 simp only [Option.bind_some]
 rw [exprY (by omega),upEY]
 rw [if_neg (fun x=>x rfl),Option.bind_some]
 dsimp only
 rw [show PS.tok T ⟨a3,d+1,k3+1,0,0⟩=T a3 from rfl]
 by_cases h4:(T a3).kind=4
 ·rw [h4] at s2
  have s2:(assigns.any fun a=>eqB (T a3).text a)=false:=s2
  rw [if_neg (by rintro (x|x);exact absurd x (by simp);exact x h4),if_neg (by rw [s2];decide)]
  exact upEY
 ·rw [if_pos (.inr h4)]
  exact upEY
theorem spec_word {w:ByteArray} {k:Nat} (h:nk (T a)=wrd w) (hw:w=bInt∨w=bChar∨w=bLong) (ha:a < 2900):specS T ⟨a,d,k,0,0⟩=some (⟨false,w,false,⟨#[]⟩,(T a).pos⟩,⟨a+1,d,k,0,0⟩):=by
 have no:∀ {s},wordy (wrd w) s=false→PS.take T ⟨a,d,k,0,0⟩ s=some (false,⟨a,d,k,0,0⟩):=fun hs=>takeN (by rw [wordy_nk h];exact hs)
 have yes:PS.take T ⟨a,d,k,0,0⟩ w=some (true,⟨a+1,d,k,0,0⟩):=takeYq (by rw [wordy_nk h];rcases hw with rfl|rfl|rfl<;>decide) (by omega)
 unfold specS specPub specSig
 rw [no (by rcases hw with rfl|rfl|rfl<;>decide)]
 simp only [Option.bind_eq_bind,Option.bind_some,Bool.false_eq_true,if_false]
 rw [no (by rcases hw with rfl|rfl|rfl<;>decide)]
 simp only [Option.map_some,Option.bind_some]
 rw [no (by rcases hw with rfl|rfl|rfl<;>decide)]
 simp only [Option.bind_some,Bool.false_eq_true,if_false]
 rw [no (by rcases hw with rfl|rfl|rfl<;>decide)]
 simp only [Option.bind_some,Bool.false_eq_true,if_false]
 rw [no (by rcases hw with rfl|rfl|rfl<;>decide)]
 simp only [Option.bind_some,Bool.false_eq_true,if_false]
 rw [no (by rcases hw with rfl|rfl|rfl<;>decide)]
 simp only [Option.bind_some]
 rcases hw with rfl|rfl|rfl
 ·rw [specW,no (by decide)]
  simp only [Option.bind_eq_bind,Option.bind_some,Bool.false_eq_true,if_false]
  rw [specW,no (by decide)]
  simp only [Option.bind_eq_bind,Option.bind_some,Bool.false_eq_true,if_false]
  rw [specW,yes]
  rfl
 ·rw [specW,yes]
  rfl
 ·rw [specW,no (by decide)]
  simp only [Option.bind_eq_bind,Option.bind_some,Bool.false_eq_true,if_false]
  rw [specW,no (by decide)]
  simp only [Option.bind_eq_bind,Option.bind_some,Bool.false_eq_true,if_false]
  rw [specW,no (by decide)]
  simp only [Option.bind_eq_bind,Option.bind_some,Bool.false_eq_true,if_false]
  rw [specW,yes]
  rfl
theorem PE.cast (h:nk (T a)=sgn 40) (ho:nk (T (a+1))=wrd bChar) (hc:nk (T (a+2))=sgn 41) (hf:PE T (n+1) .unary (a+3) (d+1) e b) (hb:b < 2900) (hd:d < 59) :
 PE T (n+2) .unary a d (.mk 11 (T a).pos ⟨#[]⟩ zeroTok ⟨⟨false,bChar,false,⟨#[]⟩,(T (a+1)).pos⟩,0,[]⟩ [e]) b:=by
 have hab:=hf.1
 refine ⟨by omega,fun k hk=>?_⟩
 obtain ⟨k1,hk1,g1⟩:=hf.2 k (by omega)
 refine ⟨k1+1,by omega,?_⟩
 rw [parseE,downY (by omega)]
 simp only [Option.bind_eq_bind,Option.bind_some,PS.tok,ne_eq,not_true_eq_false,if_false]
 rw [kind_nk h,text_nk h,typed_nk ho]
 rw [if_neg (by decide),if_neg (by decide),if_pos (by decide),advY (by omega)]
 simp only [Option.bind_some]
 rw [spec_word ho (.inr (.inl rfl)) (by omega)]
 simp only [Option.bind_some]
 rw [starsS,takeN (by rw [wordy_nk hc];decide)]
 simp only [Option.bind_eq_bind,Option.bind_some,Bool.false_eq_true,if_false]
 rw [wantY (by rw [wordy_nk hc];decide) (by omega)]
 simp only [Option.bind_some,g1]
 rw [exprY (by omega)]
 exact upEY
end
end Go.Proofs.YtgpigfcagppohaaGreatDoor
namespace Go.Proofs.YtgpigfcagppohaaGreatDoor
section
variable {T:Nat→TokS} {a b c d n m:Nat} {ks ls:List TokS} {q:TokS} {e e1 e2 e3:ExprS} {s:ByteArray} {r:Req} {x y z:StmtS} {kids:List StmtS}
theorem stop_nk {t:TokS} (h:nk t=q):stopP t=stopP q:=by subst h;rfl
theorem stopF_nk {t:TokS} (h:nk t=q):stopF t=stopF q:=by subst h;rfl
def QS (T:Nat→TokS) (n:Nat) (a d:Nat) (x:StmtS) (b:Nat):Prop:=a < b∧∀ k,k≤a→∃ k',k'+a≤k+b∧parseS T n .stmt ⟨a,d,k,0,0⟩=some (x,⟨b,d,k',0,0⟩)
def QB (T:Nat→TokS) (n:Nat) (p:Nat) (kids:List StmtS) (a d:Nat) (x:StmtS) (b:Nat):Prop:=a < b∧∀ k,k≤a→∃ k',k'+a≤k+b∧parseS T n (.block p kids) ⟨a,d,k,0,0⟩=some (x,⟨b,d,k',0,0⟩)
theorem upSY:upS (some (x,⟨a,d+1,m,0,0⟩))=some (x,⟨a,d,m,0,0⟩):=by
 unfold upS
 simp only [Option.bind_eq_bind,Option.bind_some,upY]
theorem QS.block (h:nk (T a)=sgn 123) (hf:QB T n (T a).pos [] (a+1) (d+1) x b) (hb:b < 2900) (hd:d < 59):QS T (n+1) a d x b:=by
 have hab:=hf.1
 refine ⟨by omega,fun k hk=>?_⟩
 obtain ⟨k1,hk1,g1⟩:=hf.2 (k+1) (by omega)
 refine ⟨k1,by omega,?_⟩
 rw [parseS,nodeY (by omega)]
 simp only [Option.bind_eq_bind,Option.bind_some]
 rw [downY (by omega)]
 simp only [Option.bind_some,ne_eq,not_true_eq_false,if_false]
 rw [if_neg (by rw [isY h];decide),takeYq (by rw [wordy_nk h];decide) (by omega)]
 simp only [Option.bind_some,Bool.true_eq_false,if_false]
 rw [show PS.tok T ⟨a,d,k,0,0⟩=T a from rfl,g1]
 exact upSY
theorem QB.fin {p:Nat} (h:nk (T a)=sgn 125) (ha:a < 2900):QB T (n+1) p kids a d (.mk 3 p zeroDecl none kids) (a+1)∨1000≤kids.length:=by
 rcases Nat.lt_or_ge kids.length 1000 with hl|hl
 ·refine .inl ⟨by omega,fun k hk=>⟨k,by omega,?_⟩⟩
  rw [parseS,if_neg (fun h=>h rfl),if_neg (by omega),takeYq (by rw [wordy_nk h];decide) (by omega)]
  rfl
 ·exact .inr hl
theorem QB.end {p:Nat} (h:nk (T a)=sgn 125) (ha:a < 2900) (hl:kids.length < 1000):QB T (n+1) p kids a d (.mk 3 p zeroDecl none kids) (a+1):=by
 rcases QB.fin (n:=n) (p:=p) (d:=d) (kids:=kids) h ha with h|h
 ·exact h
 ·omega
theorem QB.cons {p:Nat} (hw:wordy (T a) (b1 125)=false) (hl:kids.length < 1000) (h1:QS T n a d x b) (h2:QB T n p (kids++[x]) b d y c):QB T (n+1) p kids a d y c:=by
 have hab:=h1.1
 have hbc:=h2.1
 refine ⟨by omega,fun k hk=>?_⟩
 obtain ⟨k1,hk1,g1⟩:=h1.2 k hk
 obtain ⟨k2,hk2,g2⟩:=h2.2 k1 (by omega)
 refine ⟨k2,by omega,?_⟩
 rw [parseS,if_neg (fun h=>h rfl),if_neg (by omega),takeN hw]
 simp only [Option.bind_eq_bind,Option.bind_some,Bool.false_eq_true,if_false,g1,g2]
theorem QS.simple (hb:b < 2900) (hd:d < 59) (ht:wordy (T a) (b1 59)=false) (ht':wordy (T a) (b1 123)=false) (hab:a < b)
 (h:∀ k,k≤a+1→∃ k',k'+a≤k+(b - 1)∧retS T n (T a).pos ⟨a,d+1,k,0,0⟩=some (x,⟨b,d+1,k',0,0⟩)):QS T (n+1) a d x b:=by
 refine ⟨hab,fun k hk=>?_⟩
 obtain ⟨k1,hk1,g1⟩:=h (k+1) (by omega)
 refine ⟨k1,by omega,?_⟩
 rw [parseS,nodeY (by omega)]
 simp only [Option.bind_eq_bind,Option.bind_some]
 rw [downY (by omega)]
 simp only [Option.bind_some,ne_eq,not_true_eq_false,if_false]
 rw [if_neg (show ¬ PS.is T ⟨a,d+1,k+1,0,0⟩ (b1 59)=true by show ¬ wordy (T a) (b1 59)=true;rw [ht];decide),takeN ht']
 simp only [Option.bind_some,if_true]
 rw [show PS.tok T ⟨a,d,k,0,0⟩=T a from rfl,g1]
 exact upSY
theorem noWords_nk {k:Nat} (h:nk (T a)=q):(noWords.any fun w=>PS.is T ⟨a,d,k,0,0⟩ w)=noWords.any (wordy q):=by
 congr 1
 funext w
 exact isY h w
theorem QS.ret (h:nk (T a)=wrd bReturn) (hn:wordy (T (a+1)) (b1 59)=false) (hf:PE T n .full (a+1) (d+1) e b) (hc:nk (T b)=sgn 59) (hb:b < 2800) (hd:d < 59):QS T (n+1) a d (.mk 11 (T a).pos zeroDecl (some e) []) (b+1):=by
 have hab:=hf.1
 refine QS.simple (by omega) hd (by rw [wordy_nk h];decide) (by rw [wordy_nk h];decide) (by omega) fun k hk=>?_
 obtain ⟨k1,hk1,g1⟩:=hf.2 k (by omega)
 refine ⟨k1,by omega,?_⟩
 unfold retS
 rw [noWords_nk h,if_neg (by decide),takeYq (by rw [wordy_nk h];decide) (by omega)]
 simp only [Option.bind_eq_bind,Option.bind_some,if_true]
 rw [if_neg (show ¬ PS.is T ⟨a+1,d+1,k,0,0⟩ (b1 59)=true by show ¬ wordy (T (a+1)) (b1 59)=true;rw [hn];decide),g1]
 simp only [Option.bind_some]
 rw [wantY (by rw [wordy_nk hc];decide) (by omega)]
 rfl
theorem QS.expr (h:nk (T a)=nam s) (hf:PE T n .full a (d+1) e b) (hc:nk (T b)=sgn 59) (hb:b < 2800) (hd:d < 59):QS T (n+1) a d (.mk 1 (T a).pos zeroDecl (some e) []) (b+1):=by
 have hab:=hf.1
 have hw:∀ w,wordy (T a) w=false:=fun w=>by rw [wordy_nk h];rfl
 refine QS.simple (by omega) hd (hw _) (hw _) (by omega) fun k hk=>?_
 obtain ⟨k1,hk1,g1⟩:=hf.2 k (by omega)
 refine ⟨k1,by omega,?_⟩
 unfold retS
 rw [noWords_nk h,if_neg (show ¬ noWords.any (wordy (nam s))=true from fun h=>by cases h),takeN (hw _)]
 simp only [Option.bind_eq_bind,Option.bind_some,Bool.false_eq_true,if_false]
 unfold simpleS
 rw [show PS.tok T ⟨a,d+1,k,0,0⟩=T a from rfl,if_neg (show ¬ typedT (T a)=true by rw [typed_nk h];exact (fun x=>by cases x)),g1]
 simp only [Option.bind_eq_bind,Option.bind_some]
 rw [wantY (by rw [wordy_nk hc];decide) (by omega)]
 rfl
def declI (T:Nat→TokS) (a:Nat) (w s:ByteArray):DeclS:=⟨⟨⟨false,w,false,⟨#[]⟩,(T a).pos⟩,0,[]⟩,s,(T (a+1)).pos⟩
theorem rest_nam {k:Nat} {sp:SpecS} (h:nk (T a)=nam s) (hn:wordy (T (a+1)) (b1 91)=false) (ha:a < 2900):restS T (n+1) sp ⟨a,d,k,0,0⟩=some (⟨⟨sp,0,[]⟩,s,(T a).pos⟩,⟨a+1,d,k,0,0⟩):=by
 unfold restS
 rw [starsS,takeN (by rw [wordy_nk h];rfl)]
 simp only [Option.bind_eq_bind,Option.bind_some,Bool.false_eq_true,if_false]
 rw [takeN (by rw [wordy_nk h];rfl)]
 simp only [Option.bind_some,Bool.false_eq_true,if_false]
 unfold PS.name
 rw [if_pos ⟨rfl,kind_nk h⟩,advY (by omega)]
 simp only [Option.map_some,Option.bind_some]
 unfold dimsS
 rw [takeN hn]
 simp only [Option.bind_eq_bind,Option.bind_some,Bool.false_eq_true,if_false]
 rw [show PS.tok T ⟨a,d,k,0,0⟩=T a from rfl,text_nk h]
 rfl
theorem typed_wrd {w:ByteArray} (hw:w=bInt∨w=bChar∨w=bLong):typedT (wrd w)=true:=by rcases hw with rfl|rfl|rfl<;>decide
theorem QS.decl {w:ByteArray} (h:nk (T a)=wrd w) (hw:w=bInt∨w=bChar∨w=bLong) (hs:nk (T (a+1))=nam s) (ho:nk (T (a+2))=sgn 61) (hf:PE T (n+1) .full (a+3) (d+1) e b) (hc:nk (T b)=sgn 59) (hb:b < 2800) (hd:d < 59) :
 QS T (n+2) a d (.mk 2 (T a).pos (declI T a w s) (some e) []) (b+1):=by
 have hab:=hf.1
 refine QS.simple (by omega) hd (by rw [wordy_nk h];rcases hw with rfl|rfl|rfl<;>decide) (by rw [wordy_nk h];rcases hw with rfl|rfl|rfl<;>decide) (by omega) fun k hk=>?_
 obtain ⟨k1,hk1,g1⟩:=hf.2 k (by omega)
 refine ⟨k1,by omega,?_⟩
 unfold retS
 rw [noWords_nk h,if_neg (by rcases hw with rfl|rfl|rfl<;>decide),takeN (by rw [wordy_nk h];rcases hw with rfl|rfl|rfl<;>decide)]
 simp only [Option.bind_eq_bind,Option.bind_some,Bool.false_eq_true,if_false]
 unfold simpleS
 rw [show PS.tok T ⟨a,d+1,k,0,0⟩=T a from rfl,if_pos (by rw [typed_nk h];exact typed_wrd hw),spec_word h hw (by omega)]
 simp only [Option.bind_eq_bind,Option.bind_some]
 rw [rest_nam hs (by rw [wordy_nk ho];decide) (by omega)]
 simp only [Option.bind_some]
 rw [takeYq (by rw [wordy_nk ho];decide) (by omega)]
 simp only [Option.bind_some,if_true,g1]
 rw [wantY (by rw [wordy_nk hc];decide) (by omega)]
 rfl
theorem main_outer {gs:List DeclS} {k:Nat} (h0:nk (T a)=wrd bInt) (h1:nk (T (a+1))=nam s) (h2:nk (T (a+2))=sgn 40) (h3:nk (T (a+3))=sgn 41) (h4:nk (T (a+4))=sgn 123) (hf:QS T (n+1) (a+4) 0 x b) (hb:b < 2900) (hk:k≤a+4) :
 ∃ k',outerS T (n+1) ⟨gs,[]⟩ ⟨a,0,k,0,0⟩=some (⟨gs,[⟨⟨⟨false,bInt,false,⟨#[]⟩,(T a).pos⟩,0,[]⟩,s,(T (a+1)).pos,[],x⟩]⟩,⟨b,0,k',0,0⟩):=by
 have hab:=hf.1
 obtain ⟨k1,hk1,g1⟩:=hf.2 k hk
 refine ⟨k1,?_⟩
 unfold outerS
 rw [show PS.tok T ⟨a,0,k,0,0⟩=T a from rfl,if_neg (by rw [typed_nk h0];decide),if_neg (by rw [isY h0];decide),spec_word h0 (.inl rfl) (by omega)]
 simp only [Option.bind_eq_bind,Option.bind_some]
 rw [rest_nam h1 (by rw [wordy_nk h2];decide) (by omega)]
 simp only [Option.bind_some]
 rw [if_pos ⟨by first|rfl|trivial,by rw [isY h2];decide⟩]
 unfold functionS
 rw [wantY (by rw [wordy_nk h2];decide) (by omega)]
 simp only [Option.bind_eq_bind,Option.bind_some]
 rw [takeYq (by rw [wordy_nk h3];decide) (by omega)]
 simp only [Option.bind_some]
 unfold parsS
 simp only [if_true,Option.bind_some]
 rw [if_pos (show PS.is T ⟨a+1+1+1+1,0,k,0,0⟩ (b1 123)=true by rw [isY h4];decide),show (⟨a+1+1+1+1,0,k,0,0⟩:PS)=⟨a+4,0,k,0,0⟩ from rfl,g1]
 rfl
theorem outers_step {N n:Nat} {u u':UnitS} {st st':PS} (h0:st.fk=0) (hk:(T st.at_).kind≠0) (h:outerS T N u st=some (u',st')):outersS T N (n+1) u st=outersS T N n u' st':=by
 rw [outersS,if_neg (by rintro (x|x);exact x h0;exact hk x)]
 simp only [Option.bind_eq_bind,h,Option.bind_some]
theorem outers_end {N n:Nat} {u:UnitS} {st:PS} (hk:(T st.at_).kind=0):outersS T N (n+1) u st=some (u,st):=by
 rw [outersS,if_pos (.inr hk)]
end
def withK (T:Nat→TokS) (ks:List TokS) (i:Nat):TokS:=match ks[i]? with
 | some q=>⟨q.kind,q.text,(T i).pos,q.value,q.uns,q.long⟩
 | none=>T i
theorem withK_eq {T:Nat→TokS} {ks:List TokS} (h:Seg T 0 ks):withK T ks=T:=by
 funext i
 unfold withK
 cases hq:ks[i]? with
 | none=>rfl
 | some q =>
  have:=h i q hq
  rw [Nat.zero_add] at this
  subst this
  rfl
end Go.Proofs.YtgpigfcagppohaaGreatDoor
namespace Go.Proofs.YtgpigfcagppohaaGreatDoor
def bX:ByteArray:=b1 120
def bY:ByteArray:=b1 121
def bZ:ByteArray:=b1 122
def tI:TyS:=.int (i4 false)
def nmS (m:Nat):List (ByteArray × Nat × Nat):=(List.range m).map fun i=>(bY,i,i+1)
def st3 (j m D:Nat):CS:=⟨0,0,[⟨bX,tI,0⟩],4,i4 false,List.replicate j tI,nmS m,D⟩
section
variable {N n p p' p1 p2 p3 j m D:Nat} {tk tk':TokS} {ty ty':TypeS} {kids kids':List ExprS} {x:ExprS} {v:NodeS} {d:DeclS}
theorem ex_num (hu:tk.uns=false) (hl:tk.long=false) (hv:tk.value < 2147483648) {st:CS} (hs:st.fk=0):exprM (rawM (N+1)) (.mk 1 p ⟨#[]⟩ tk ty kids) st=some (.mk 1 p tI false eS tk.value 0 [],st):=by
 have:rawM (N+1) (.mk 1 p ⟨#[]⟩ tk ty kids) st=some (.mk 1 p tI false eS tk.value 0 [],st):=by
  show (if tk.uns=false∧tk.long=false∧tk.value < 2147483648 then some (NodeS.mk 1 p (.int (i4 false)) false eS tk.value 0 [],st) else none)=_
  rw [if_pos ⟨hu,hl,hv⟩];rfl
 unfold exprM
 rw [this]
 simp only [Option.bind_eq_bind,Option.bind_some]
 rw [if_pos (.inr rfl)]
theorem ok_of {R:ExprS→CS→Option (NodeS × CS)} {st:CS} (h:exprM R x st=some (v,st)) (hs:st.fk=0):okM R x st=some (v,st):=by
 unfold okM
 rw [h]
 simp only [Option.bind_eq_bind,Option.bind_some]
 rw [if_neg (fun x=>x hs)]
theorem leave_fk {st:CS}:(leaveS st).fk=st.fk:=rfl
end
end Go.Proofs.YtgpigfcagppohaaGreatDoor
