/-
  What the functions that the law reaches compute,told by plain data;it holds of programs that pass the check of right form and are light.
-/
import Derived.Test.YtbmmchaaiakanaaDoorR5
import Derived.Test.YtbmmchaaiakanaaDoorS2
set_option linter.unusedVariables false
set_option linter.unusedSimpArgs false
namespace Go.Proofs.YtbmmchaaiakanaaDoor
open Go.AH
attribute [local irreducible] W RS WR
def funcDC (d:DeclS) (A:Option Addr) (n c:Nat) (E:Value):List Value:=declC d none 0++[.slice A n c,E]
def FunQ (L:List TokS) (tb cap pb:Nat) (h:Hp) (f:FuncDS) (t:PS) (v:Value) (h':Hp):Prop:=∃ A c b d,d.name=f.name∧v=.agg ⟨funcDC d A f.params.length c (ptrC b)⟩∧StmtAt h' h.n b f.body∧ParAt L tb cap pb h' t∧OffP pb h h'
section
variable {L:List TokS} {tb cap pb:Nat} {h:Hp} {st:PS}
structure NowF (L:List TokS) (tb cap pb:Nat) (h B:Hp) (st:PS) (fb:Nat) (c:Blk) (rb:Nat) (c2:Blk):Prop where
 w:NowS L tb cap pb h B st fb c
 r:B.m rb=some c2
 rlo:h.n≤rb
 rp:pb < rb
 rf:rb≠fb
variable {B B1 H1:Hp} {fb rb:Nat} {c c2:Blk} {st':PS}
theorem NowF.step {P:Program} {π:Nat→Nat} {k:Nat} {l:List (Nat × Option Blk)} (w:NowF L tb cap pb h B st fb c rb c2) (a:Absb (P:=P) ⟨B,π,k,l⟩ B1) (p':ParAt L tb cap pb H1 st') (d:∀ i c,H1.m i=some c→i < H1.n) (o':OffP pb B1 H1):NowF L tb cap pb h H1 st' fb c rb c2 :=
 ⟨w.w.step a p' d o',o'.keep (a.up _ _ w.r) (a.dom _ _ (a.up _ _ w.r)) (Nat.ne_of_gt w.rp),w.rlo,w.rp,w.rf⟩
theorem NowF.write (w:NowF L tb cap pb h B st fb c rb c2) (c':Blk):NowF L tb cap pb h (B.set fb c') st fb c' rb c2 :=
 ⟨w.w.write c',(by show (if rb=fb then _ else _)=_;rw [if_neg w.rf];exact w.r),w.rlo,w.rp,w.rf⟩
theorem NowF.step0 (w:NowF L tb cap pb h B st fb c rb c2) (p':ParAt L tb cap pb H1 st') (d:∀ i c,H1.m i=some c→i < H1.n) (o':OffP pb B H1):NowF L tb cap pb h H1 st' fb c rb c2 :=
 ⟨⟨⟨p',d,w.w.q.o.trans o'⟩,o'.keep w.w.s (w.w.q.d _ _ w.w.s) (Nat.ne_of_gt w.w.ne),w.w.lo,w.w.ne,w.w.tn⟩,o'.keep w.r (w.w.q.d _ _ w.r) (Nat.ne_of_gt w.rp),w.rlo,w.rp,w.rf⟩
theorem NowF.ends {P:Program} {π:Nat→Nat} {k:Nat} {l:List (Nat × Option Blk)} (w:NowF L tb cap pb h B st fb c rb c2) (a:Absb (P:=P) ⟨B,π,k,l⟩ B1):NowF L tb cap pb h B1 st fb c rb c2 :=
 w.step a (w.w.q.p.absd w.w.q.d a) a.dom (OffP.refl pb _)
theorem gen_up {P:Program} {H B7 Bx:Hp} {n k k':Nat} {π:Nat→Nat} {l l':List (Nat × Option Blk)} (hd:(⟨cutH H n,π,k,l⟩:SH).den=H) (a:Absb (P:=P) ⟨Bx,π,k',l'⟩ B7) (hn:Bx.n=n) (hk:k≤k') (hl:∀ j,j < k→lookB l' j=lookB l j) (S:Nat→Prop) (hS:∀ i,i < n→¬ S i→Bx.m i=H.m i):∀ i c',¬ S i→H.m i=some c'→B7.m i=some c':=by
 intro i c' hne hc
 by_cases hi:i < n
 ·rw [a.old i (by rw [hn];exact hi),hS i hi hne];exact hc
 ·rw [← hd] at hc
  simp only [SH.den] at hc
  rw [if_neg (show ¬ i < (cutH H n).n from hi)] at hc
  cases hx:idx π k i with
  | none=>rw [hx] at hc;cases hc
  | some j =>
   rw [hx] at hc
   obtain ⟨g1,g2⟩:=idx_some hx
   rw [← g2,a.loc j (Nat.lt_of_lt_of_le g1 hk),hl j g1];exact hc
theorem NowF.gen {P:Program} {H B7 Bx:Hp} {n k k':Nat} {π:Nat→Nat} {l l':List (Nat × Option Blk)} {c0:Blk} (w:NowF L tb cap pb h H st fb c0 rb c2) (hd:(⟨cutH H n,π,k,l⟩:SH).den=H) (a:Absb (P:=P) ⟨Bx,π,k',l'⟩ B7) (hn:Bx.n=n) (hk:k≤k') (hl:∀ j,j < k→lookB l' j=lookB l j) (S:Nat→Prop) (hS:∀ i,i < n→¬ S i→Bx.m i=H.m i)
 (hSh:∀ i,S i→h.n≤i) (hSr:¬ S rb) (htb:tb < h.n) (hpb:pb < h.n) (hhn:h.n≤n) (hf:Bx.m fb=some c):NowF L tb cap pb h B7 st fb c rb c2:=by
 have up:=gen_up hd a hn hk hl S hS
 have no:∀ i,i < h.n→¬ S i:=fun i hi hs=>absurd (hSh i hs) (Nat.not_le.2 hi)
 refine ⟨⟨⟨⟨up _ _ (no _ htb) w.w.q.p.tok,up _ _ (no _ hpb) w.w.q.p.par,w.w.q.p.fits,w.w.q.p.rw,w.w.q.p.ne⟩,a.dom,Nat.le_trans hhn (by rw [← hn];exact a.le),fun i hi hne=>?_⟩,a.up _ _ hf,w.w.lo,w.w.ne,w.w.tn⟩,up _ _ hSr w.r,w.rlo,w.rp,w.rf⟩
 have hin:i < n:=Nat.lt_of_lt_of_le hi hhn
 rw [a.old i (by rw [hn];exact hin),hS i hin (no i hi)]
 exact w.w.q.o.2 i hi hne
end
def dcs (l:List DeclS):List Value:=l.flatMap fun d=>declC d none 0
theorem dcs_len (l:List DeclS):(dcs l).length=l.length * 11:=by
 unfold dcs
 induction l with
 | nil=>rfl
 | cons d l ih=>rw [List.flatMap_cons,List.length_append,ih,List.length_cons];show 11+_=_;omega
def rowA (kb:Nat) (l:List DeclS):Option Addr:=if l=[] then none else some ⟨kb,0,none⟩
def rowK (l:List DeclS):Nat:=if l=[] then 0 else capOf 11
def RowF (h B:Hp) (l:List DeclS) (kb fb rb:Nat):Prop:=l≠[]→B.m kb=some ⟨⟨dcs l⟩,44⟩∧h.n≤kb∧kb≠fb∧kb≠rb
theorem RowF.abs {P:Program} {h B B1:Hp} {π:Nat→Nat} {k:Nat} {l0:List (Nat × Option Blk)} {l:List DeclS} {kb fb rb:Nat} (r:RowF h B l kb fb rb) (a:Absb (P:=P) ⟨B,π,k,l0⟩ B1):RowF h B1 l kb fb rb:=fun hl=>⟨a.up _ _ (r hl).1,(r hl).2⟩
theorem RowF.off {h B B1:Hp} {pb:Nat} {l:List DeclS} {kb fb rb:Nat} (r:RowF h B l kb fb rb) (o:OffP pb B B1) (hd:∀ i c,B.m i=some c→i < B.n) (hpb:pb < h.n):RowF h B1 l kb fb rb:=fun hl=>⟨o.keep (r hl).1 (hd _ _ (r hl).1) (Nat.ne_of_gt (Nat.lt_of_lt_of_le hpb (r hl).2.1)),(r hl).2⟩
def sideTwo (i j b:Nat):List Rk→Prop
 | []=>True
 | r::rs=>(r.eb=none∨r.eb=some (fun id=>id == i)∨r.eb=some fun id=>id == j)∧(r.sb=none∨r.sb=some fun id=>id == b)∧sideTwo i j b rs
theorem sideTwo_all {i j b:Nat} (hi:i≠b) (hj:j≠b):∀ {rs:List Rk},sideTwo i j b rs→∀ x∈rs,∀ y∈rs,SideX x y:=by
 intro rs h x hx y hy e q he hq id hid
 have key:∀ {rs:List Rk},sideTwo i j b rs→∀ x∈rs,(x.eb=none∨x.eb=some (fun id=>id == i)∨x.eb=some fun id=>id == j)∧(x.sb=none∨x.sb=some fun id=>id == b):=by
  intro rs
  induction rs with
  | nil=>intro _ x hx;cases hx
  | cons r rs ih =>
   intro h x hx
   rcases List.mem_cons.1 hx with e|e
   ·subst e;exact ⟨h.1,h.2.1⟩
   ·exact ih h.2.2 x e
 have h1:=(key h x hx).1
 have h2:=(key h y hy).2
 rw [he] at h1
 rw [hq] at h2
 rcases h2 with h2|h2
 ·cases h2
 ·injection h2 with h2
  subst h2
  rcases h1 with h1|h1|h1
  ·cases h1
  ·injection h1 with h1
   subst h1
   have hid:id=i:=by simpa using hid
   subst hid
   simp [hi]
  ·injection h1 with h1
   subst h1
   have hid:id=j:=by simpa using hid
   subst hid
   simp [hj]
theorem function_iff {T:Nat→TokS} {n:Nat} {d:DeclS} {st t:PS} {f:FuncDS} (hs:functionS T n d st=some (f,t)):∃ u1 b2 u2 ps u3 s,st.want T (b1 40)=some u1∧u1.take T (b1 41)=some (b2,u2)∧parsS T n u2 b2=some (ps,u3)∧parseS T n (if u3.is T (b1 123)=true then u3 else u3.fail T 11)=some (s,t)∧f=⟨d.ty,d.name,d.pos,ps,s⟩:=by
 unfold functionS at hs
 obtain ⟨u1,h1,hs1⟩:=bind_some' hs
 obtain ⟨⟨b2,u2⟩,h2,hs2⟩:=bind_some' hs1
 obtain ⟨⟨ps,u3⟩,h3,hs3⟩:=bind_some' hs2
 obtain ⟨⟨s,u4⟩,h4,hs4⟩:=bind_some' hs3
 simp only [Option.some.injEq,Prod.mk.injEq] at hs4
 obtain ⟨h5,rfl⟩:=hs4
 exact ⟨u1,b2,u2,ps,u3,s,h1,h2,h3,h4,h5.symm⟩
section
variable {L:List TokS} {tb cap pb:Nat} {h:Hp} {st:PS}
theorem fail_fk {T:Nat→TokS} {st:PS} {k:Nat} (hk:k≠0):(st.fail T k).fk≠0:=by
 unfold PS.fail
 split
 ·exact hk
 ·assumption
theorem want_fk {T:Nat→TokS} {st t:PS} {s:ByteArray} (h:st.want T s=some t) (hf:t.fk=0):st.fk=0:=by
 unfold PS.want at h
 obtain ⟨⟨b,u⟩,h1,h2⟩:=Option.map_eq_some_iff.1 h
 have h3:=take_fk h1
 cases b with
 | true =>
  simp only [if_true] at h2
  subst h2;rw [← h3];exact hf
 | false =>
  simp only [Bool.false_eq_true,if_false] at h2
  subst h2
  exact absurd hf (fail_fk (by decide))
theorem dcs_app (l:List DeclS) (d:DeclS):dcs (l++[d])=dcs l++declC d none 0:=by
 unfold dcs
 rw [List.flatMap_append]
 simp
theorem params_iff {T:Nat→TokS} {m n:Nat} {st t:PS} {l r:List DeclS} (h:paramsS T m (n+1) st l=some (r,t)):(st.fk≠0∧r=l∧t=st)∨(st.fk=0∧typedT (st.tok T)=false∧r=l∧t=st.fail T 11) ∨
 (st.fk=0∧typedT (st.tok T)=true∧∃ s u1 d u2 b u4,specS T st=some (s,u1)∧restS T m s u1=some (d,u2)∧(if 6 < l.length+1 then u2.fail T 4 else u2).take T (b1 41)=some (b,u4)∧((b=true∧r=l++[d]∧t=u4)∨(b=false∧∃ u5,u4.want T (b1 44)=some u5∧paramsS T m n u5 (l++[d])=some (r,t)))):=by
 rw [paramsS] at h
 by_cases hf:st.fk=0
 ·rw [if_neg (fun hc=>hc hf)] at h
  cases ht:typedT (st.tok T) with
  | false =>
   rw [ht,if_pos rfl] at h
   simp only [Option.some.injEq,Prod.mk.injEq] at h
   exact .inr (.inl ⟨hf,rfl,h.1.symm,h.2.symm⟩)
  | true =>
   rw [ht,if_neg (by decide)] at h
   obtain ⟨⟨s,u1⟩,h1,h2⟩:=bind_some' h
   obtain ⟨⟨d,u2⟩,h3,h4⟩:=bind_some' h2
   obtain ⟨⟨b,u4⟩,h5,h6⟩:=bind_some' h4
   refine .inr (.inr ⟨hf,rfl,s,u1,d,u2,b,u4,h1,h3,h5,?_⟩)
   cases b with
   | true=>simp only [if_true,Option.some.injEq,Prod.mk.injEq] at h6;exact .inl ⟨rfl,h6.1.symm,h6.2.symm⟩
   | false =>
    simp only [Bool.false_eq_true,if_false] at h6
    obtain ⟨u5,h7,h8⟩:=bind_some' h6
    exact .inr ⟨rfl,u5,h7,h8⟩
 ·rw [if_pos hf] at h
  simp only [Option.some.injEq,Prod.mk.injEq] at h
  exact .inl ⟨hf,h.1.symm,h.2.symm⟩
set_option maxHeartbeats 4000000 in
theorem function_ok (hL:ToksOK L) {n:Nat} {d:DeclS} {f:FuncDS} {t:PS} (hd:d.ty.dims=[]) (hs:functionS (tokN L) n d st=some (f,t)) (p:ParAt L tb cap pb h st):EX Tryd.prog 22 [ptrC pb,.agg ⟨declC d none 0⟩] h (FunQ L tb cap pb h f t):=by
 obtain ⟨u1,b2,u2,ps,u3,s1,h1,h2,h3,h4,rfl⟩:=function_iff hs
 clear hs
 refine EX.intro (fn:=Tryd.f22) (c:=(Tryd.f22.body.getD .skip)) Tryd.func22 (by kernel_rfl) Tryd.ntmps22 (by kernel_rfl) fun π s0=>?_
 conv=>arg 2;whnf
 have hpb:=s0.dom _ _ p.par
 have q:Now L tb cap pb h h st:=⟨p,s0.dom,OffP.refl pb h⟩
 ((with_reducible apply W.seq);repeat (first|refine Y8 ?_|((with_reducible apply RS.box);iterate 3 exact rfl)|refine Y0 ?_|refine Y1 ?_|refine Ym ?_))
 ((with_reducible apply W.seq);repeat (first|((with_reducible apply RS.fieldAddr);iterate 3 exact rfl)|refine Yl ?_|refine Yk ?_|refine Y2 ?_|refine Y8 ?_|refine Yi ?_|refine Y0 ?_|refine Y1 ?_|refine Ym ?_))
 refine W.absorbX fun G π0 a0=>?_
 have w:NowF L tb cap pb h G st (π 2) ⟨⟨funcDC d none 0 0 (.pointer none)⟩,53⟩ (π 1) ⟨⟨funcDC ⟨zeroType,⟨#[]⟩,0⟩ none 0 0 (.pointer none)⟩,53⟩ :=
  ⟨⟨⟨(q.ends a0).1,a0.dom,(q.ends a0).2⟩,a0.loc 2 (Nat.le_of_ble_eq_true rfl),a0.lo 2 (Nat.le_of_ble_eq_true rfl),Nat.lt_of_lt_of_le hpb (a0.lo 2 (Nat.le_of_ble_eq_true rfl)),fun e=>by have h1:h.n≤π 2:=a0.lo 2 (Nat.le_of_ble_eq_true rfl);have h2:=s0.dom _ _ p.tok;omega⟩,a0.loc 1 (Nat.le_of_ble_eq_true rfl),a0.lo 1 (Nat.le_of_ble_eq_true rfl),Nat.lt_of_lt_of_le hpb (a0.lo 1 (Nat.le_of_ble_eq_true rfl)),fun e=>absurd (a0.inj 1 2 (Nat.le_of_ble_eq_true rfl) (Nat.le_of_ble_eq_true rfl) e) (by decide)⟩
 generalize π 2=fb at *
 generalize π 1=rb at *
 have hfw:rwM≤fb:=Nat.le_trans a0.rw w.w.lo
 have hrw:rwM≤rb:=Nat.le_trans a0.rw w.rlo
 have htr:tb≠rb:=fun e=>by have h1:=w.rlo;have h2:=s0.dom _ _ p.tok;omega
 ((with_reducible apply W.seq);repeat (first|((with_reducible apply (RS.callEx (g0:=26)));(iterate 3 exact rfl);intro B1 hB1;refine ⟨_,want_ex hL (w.w.q.p.absd w.w.q.d hB1) _ h1,?_⟩;rintro v H1 π1 ⟨rfl,p',o'⟩ sp' hle1;have w:=w.step hB1 p' sp'.dom o')|refine Yq ?_|refine Y0 ?_|refine Y1 ?_|refine Ym ?_))
 with_reducible apply W.seq
 with_reducible apply W.block
 refine W.joinNB (X:=Option Addr × Nat) (fun _=>[(0,ptrC pb),(4,ptrC rb),(5,ptrC fb)]) (fun x B=>NowF L tb cap pb h B u3 fb ⟨⟨funcDC d x.1 ps.length x.2 (.pointer none)⟩,53⟩ rb ⟨⟨funcDC ⟨zeroType,⟨#[]⟩,0⟩ none 0 0 (.pointer none)⟩,53⟩) ?_ ?_
 ·cases b2 with
  | true =>
   unfold parsS at h3
   rw [if_pos rfl] at h3
   simp only [Option.some.injEq,Prod.mk.injEq] at h3
   obtain ⟨rfl,rfl⟩:=h3
   repeat (first|((with_reducible apply (RS.callEx (g0:=24)));(iterate 3 exact rfl);intro B2 hB2;refine ⟨_,take_ex hL (w.w.q.p.absd w.w.q.d hB2) _ h2,?_⟩;rintro v H2 π2 ⟨rfl,p2,o2⟩ sp2 hle2;have w:=w.step hB2 p2 sp2.dom o2)|refine Y4 ?_|refine Y0 ?_|refine Y1y ?_|refine Y1 ?_|refine Y5 ?_)
   refine joinN_n rfl fun B' a=>⟨(none,0),?_,w.ends a⟩
   (repeat' (first|exact trivial|exact rfl|apply And.intro));done
  | false =>
   unfold parsS at h3
   rw [if_neg (by decide)] at h3
   split at h3
   ·cases h3
   rename_i hv
   have his:u2.is (tokN L) bVoid=false:=by simpa using hv
   ((with_reducible apply W.seq);repeat (first|((with_reducible apply (RS.callEx (g0:=24)));(iterate 3 exact rfl);intro B2 hB2;refine ⟨_,take_ex hL (w.w.q.p.absd w.w.q.d hB2) _ h2,?_⟩;rintro v H2 π2 ⟨rfl,p2,o2⟩ sp2 hle2;have w:=w.step hB2 p2 sp2.dom o2)|refine Y4 ?_|refine Y0 ?_|refine Y1 ?_|refine Y3 ?_|refine Ym ?_))
   ((with_reducible apply W.seq);repeat (first|refine Y21 ?_|refine Y4 ?_|refine Yd ?_|refine Yn ?_|refine Y0 ?_|refine Y1 ?_|(with_reducible first|apply W.block|apply thenK_n)|refine Y3 ?_))
   have htb:tb < h.n:=s0.dom _ _ p.tok
   refine W.loopN (X:=Nat × List DeclS × PS × Nat) (fun _=>[(0,ptrC pb),(4,ptrC rb),(5,ptrC fb)]) (fun x B=>NowF L tb cap pb h B x.2.2.1 fb ⟨⟨funcDC d (rowA x.2.2.2 x.2.1) x.2.1.length (rowK x.2.1) (.pointer none)⟩,53⟩ rb ⟨⟨funcDC ⟨zeroType,⟨#[]⟩,0⟩ none 0 0 (.pointer none)⟩,53⟩∧RowF h B x.2.1 x.2.2.2 fb rb∧(x.2.2.1.fk=0→x.2.1.length≤6)∧paramsS (tokN L) n x.1 x.2.2.1 x.2.1=some (ps,u3)) (fun x=>x.1)
    (fun B' a=>⟨(n,[],u2,0),?_,w.ends a,fun hc=>absurd rfl hc,fun _=>Nat.zero_le _,h3⟩) ?_
   ·(repeat' (first|exact trivial|exact rfl|apply And.intro));done
   clear h3 w
   rintro ⟨m,l,st',kb⟩ B π3 sB ⟨w,hrow,hl6,h3⟩
   dsimp only at w hrow hl6 h3 ⊢
   cases m with
   | zero=>rw [paramsS] at h3;cases h3
   | succ m =>
    rcases params_iff h3 with ⟨hf,rfl,rfl⟩|⟨hf,ht,rfl,rfl⟩|⟨hf,ht,s,v1,d',v2,b,v4,e1,e2,e3,e4⟩
    ·repeat (first|((with_reducible apply (RS.callA (g0:=10)));(iterate 3 exact rfl);exact fun B' hB'=>ok_tf (w.w.q.p.absd w.w.q.d hB') (decide_eq_false hf))|refine Yq ?_|refine Y0 ?_|refine Y34 ?_|refine Y1 ?_|refine Y3 ?_|refine Yf ?_)
     refine joinN_n rfl fun B' a=>⟨(rowA kb ps,rowK ps),?_,w.ends a⟩
     (repeat' (first|exact trivial|exact rfl|apply And.intro));done
    ·repeat (first|((with_reducible apply (RS.callEx (g0:=17)));(iterate 3 exact rfl);intro B2 hB2;refine ⟨_,fail_ex hL (w.w.q.p.absd w.w.q.d hB2) 11,?_⟩;rintro v H2 π2 ⟨rfl,p',o'⟩ sp2 hle2;have w:=w.step hB2 p' sp2.dom o')|refine Y2l ?_|refine Y2u ?_|refine Y1f ?_|refine Y0 ?_|(with_reducible first|apply W.seq|apply W.block|apply W.exit|apply W.skip|apply thenK_n|apply thenK_e|apply blockK_n|apply roundN_e)|refine Y1 ?_|refine Y5 ?_|refine Yf ?_|refine Y24 ?_)
     refine joinN_n rfl fun B' a=>⟨(rowA kb ps,rowK ps),?_,w.ends a⟩
     (repeat' (first|exact trivial|exact rfl|apply And.intro));done
    ·have hlen:=hl6 hf
     have hnB:h.n≤B.n:=w.w.q.o.1
     have hfn:=sB.dom _ _ w.w.s
     have hrwh:=a0.rw
     have hrn:=sB.dom _ _ w.r
     ((with_reducible apply W.seq);repeat (fail))
     ((with_reducible apply W.seq);repeat (first|refine Y2l ?_|refine Yq ?_|refine Y0 ?_|refine Y1 ?_|(with_reducible first|apply W.block|apply W.skip|apply thenK_n)|refine Y5 ?_))
     ((with_reducible apply W.seq);repeat (fail))
     ((with_reducible apply W.seq);repeat (first|refine Y2u ?_|refine Y1f ?_|refine Y0 ?_|refine Y1 ?_|refine Y1h ?_|refine Y3 ?_))
     with_reducible apply W.seq
     refine W.joinNT (X:=Nat) (fun _=>[(0,ptrC pb),(4,ptrC rb),(5,ptrC fb)]) (fun kb' B=>NowF L tb cap pb h B v2 fb ⟨⟨funcDC d (rowA kb' (l++[d'])) (l++[d']).length (rowK (l++[d'])) (.pointer none)⟩,53⟩ rb ⟨⟨funcDC ⟨zeroType,⟨#[]⟩,0⟩ none 0 0 (.pointer none)⟩,53⟩∧RowF h B (l++[d']) kb' fb rb) ?_ ?_
     ·by_cases hle:l=[]
      ·subst hle
       replace w:NowF L tb cap pb h B st' fb ⟨⟨funcDC d none 0 0 (.pointer none)⟩,53⟩ rb ⟨⟨funcDC ⟨zeroType,⟨#[]⟩,0⟩ none 0 0 (.pointer none)⟩,53⟩:=w
       repeat (first|refine Y37 ?_|((with_reducible apply (RS.callYE (g0:=20) (fun id=>id == pb)));(iterate 3 exact rfl);intro B4 he4 hB4;refine ⟨_,spec_ex hL (w.w.q.p.absd w.w.q.d hB4) e1,(fun v H' hq i hi hei=>hq.2.2.2 i (Nat.lt_of_lt_of_le hi hB4.le) (by simpa using hei)),?_⟩;rintro v H5 k5 l5 ⟨rfl,p5,o5⟩ s5 hle5 hm5 hden5 hwf5 hk5;have w:=w.step hB4 p5 s5.dom o5)|((with_reducible apply (RS.callYE (g0:=21) (fun id=>id == pb)));(iterate 3 exact rfl);intro B6 he6 hB6;obtain rfl:=he6.symm.trans hden5;refine ⟨_,(rest_ex hL w.w.q.p e2).2,(fun v H' hq i hi hei=>hq.2.2.2 i (Nat.lt_of_lt_of_le hi hB6.le) (by simpa using hei)),?_⟩;rintro v H7 k7 l7 ⟨rfl,p7,o7⟩ s7 hle7 hm7 hden7 hwf7 hk7;have w:=w.step0 p7 s7.dom o7)|refine Yh ?_|((with_reducible apply (RS.appendNil (i:=k7)));(iterate 6 exact rfl);exact blt_iff.2 (Nat.lt_succ_self k7);exact ((look_cons _ _ _).trans (if_pos rfl));exact Nat.le_of_ble_eq_true rfl;exact Nat.lt_succ_self 0;exact Nat.le_of_ble_eq_true rfl;exact Nat.le_of_ble_eq_true rfl)|((with_reducible apply (RS.storeB (cs':=funcDC d (some ⟨π3 (k7+1),0,none⟩) 1 (capOf 11) (.pointer none))));(iterate 3 exact rfl);exact ((if_pos hfn).trans w.w.s);exact hfn;exact hfw;exact Nat.le_of_ble_eq_true rfl;iterate 3 exact rfl)|((with_reducible apply (RS.nilPX mixed [(1,2),(0,2),(2,3),(1,3),(0,3),(2,4),(1,4),(0,4),(1,5),(0,5),(1,6),(0,6)]));kernel_rfl;(repeat (refine ⟨fun x y hx hy=>(by obtain rfl:=Option.some.inj hx;obtain rfl:=Option.some.inj hy;exact pairR_free rfl rfl rfl rfl rfl rfl rfl (Nat.zero_le _) rfl),?_⟩));exact trivial;exact sideOK_all (j:=pb) (b:=fb) (Nat.ne_of_lt w.w.ne) (by repeat' (first|exact trivial|exact .inl rfl|exact .inr rfl|apply And.intro)))|refine Y2h ?_|refine Y1 ?_)
       have hlk:∀ (x y:Option Blk) (j:Nat),j < k7→lookB ((k7+1,x)::(k7,y)::l7) j=lookB l7 j:=fun x y j hj=>by rw [look_cons,look_cons,if_neg (Nat.ne_of_gt (Nat.lt_succ_of_lt hj)),if_neg (Nat.ne_of_gt hj)]
       refine joinN_n rfl fun B' a=>⟨π3 (k7+1),?_,w.gen hden7 a rfl (Nat.le_add_right k7 2) (hlk _ _) (fun i=>i=fb) (fun i hi hne=>?_) (fun i e=>by rw [e];exact w.w.lo) w.rf htb hpb hnB (if_pos rfl),fun _=>⟨?_,?_,?_,?_⟩⟩
       ·(repeat' (first|exact trivial|exact rfl|apply And.intro));done
       ·show (if i=fb then _ else if i < B.n then H7.m i else none)=_
        rw [if_neg hne];exact if_pos hi
       ·exact (a.loc (k7+1) (Nat.lt_succ_self _)).trans ((look_cons _ _ _).trans (if_pos rfl))
       ·exact Nat.le_trans hnB (a.lo (k7+1) (Nat.lt_succ_self _))
       ·exact Nat.ne_of_gt (Nat.lt_of_lt_of_le hfn (a.lo (k7+1) (Nat.lt_succ_self _)))
       ·exact Nat.ne_of_gt (Nat.lt_of_lt_of_le hrn (a.lo (k7+1) (Nat.lt_succ_self _)))
      ·have hA:rowA kb l=some ⟨kb,0,none⟩:=if_neg hle
       have hK:rowK l=capOf 11:=if_neg hle
       rw [hA,hK] at w
       obtain ⟨hrow,hkh,hkf,hkr⟩:=hrow hle
       have hkn:=sB.dom _ _ hrow
       have hkw:rwM≤kb:=Nat.le_trans hrwh hkh
       have hkp:kb≠pb:=Nat.ne_of_gt (Nat.lt_of_lt_of_le hpb hkh)
       repeat (first|refine Y37 ?_|((with_reducible apply (RS.callYE (g0:=20) (fun id=>id == pb)));(iterate 3 exact rfl);intro B4 he4 hB4;refine ⟨_,spec_ex hL (w.w.q.p.absd w.w.q.d hB4) e1,(fun v H' hq i hi hei=>hq.2.2.2 i (Nat.lt_of_lt_of_le hi hB4.le) (by simpa using hei)),?_⟩;rintro v H5 k5 l5 ⟨rfl,p5,o5⟩ s5 hle5 hm5 hden5 hwf5 hk5;have hrow:=o5.keep (hB4.up _ _ hrow) (hB4.dom _ _ (hB4.up _ _ hrow)) hkp;have w:=w.step hB4 p5 s5.dom o5)|((with_reducible apply (RS.callYE (g0:=21) (fun id=>id == pb)));(iterate 3 exact rfl);intro B6 he6 hB6;obtain rfl:=he6.symm.trans hden5;refine ⟨_,(rest_ex hL w.w.q.p e2).2,(fun v H' hq i hi hei=>hq.2.2.2 i (Nat.lt_of_lt_of_le hi hB6.le) (by simpa using hei)),?_⟩;rintro v H7 k7 l7 ⟨rfl,p7,o7⟩ s7 hle7 hm7 hden7 hwf7 hk7;have hrow:=o7.keep hrow (w.w.q.d _ _ hrow) hkp;have w:=w.step0 p7 s7.dom o7)|refine Yh ?_|((with_reducible apply (RS.growXL (j:=kb) (i:=k7)));(iterate 6 exact rfl);exact ((if_pos hkn).trans hrow);exact hkn;exact hkw;exact dcs_len l;exact blt_iff.2 (Nat.lt_succ_self k7);exact ((look_cons _ _ _).trans (if_pos rfl));exact Nat.le_of_ble_eq_true rfl;exact rfl;exact Nat.le_trans (Nat.mul_le_mul_right _ (show l.length+1≤7 from by omega)) (Nat.le_of_ble_eq_true rfl);exact Nat.le_trans (show l.length+1≤7 from by omega) (Nat.le_of_ble_eq_true rfl))|((with_reducible apply (RS.storeB (cs':=funcDC d (some ⟨π3 (k7+1),0,none⟩) (l.length+1) (capOf 11) (.pointer none))));(iterate 3 exact rfl);exact ((if_neg (Ne.symm hkf)).trans ((if_pos hfn).trans w.w.s));exact hfn;exact hfw;exact Nat.le_of_ble_eq_true rfl;iterate 3 exact rfl)|((with_reducible apply (RS.nilPX mixed [(1,2),(0,2),(2,3),(1,3),(0,3),(2,4),(1,4),(0,4),(1,5),(0,5),(1,6),(0,6)]));kernel_rfl;(repeat (refine ⟨fun x y hx hy=>(by obtain rfl:=Option.some.inj hx;obtain rfl:=Option.some.inj hy;exact pairR_free rfl rfl rfl rfl rfl rfl rfl (Nat.zero_le _) rfl),?_⟩));exact trivial;exact sideTwo_all (i:=pb) (j:=kb) (b:=fb) (Nat.ne_of_lt w.w.ne) hkf (by repeat' (first|exact trivial|exact .inl rfl|exact .inr rfl|exact .inr (.inl rfl)|exact .inr (.inr rfl)|apply And.intro)))|refine Y2h ?_|refine Y1 ?_)
       have hlk:∀ (x y:Option Blk) (j:Nat),j < k7→lookB ((k7+1,x)::(k7,y)::l7) j=lookB l7 j:=fun x y j hj=>by rw [look_cons,look_cons,if_neg (Nat.ne_of_gt (Nat.lt_succ_of_lt hj)),if_neg (Nat.ne_of_gt hj)]
       refine joinN_n rfl fun B' a=>⟨π3 (k7+1),?_,?_,fun _=>⟨?_,?_,?_,?_⟩⟩
       ·(repeat' (first|exact trivial|exact rfl|apply And.intro));done
       ·have hw:=w.gen (c:=⟨⟨funcDC d (some ⟨π3 (k7+1),0,none⟩) (l.length+1) (capOf 11) (.pointer none)⟩,53⟩) hden7 a rfl (Nat.le_add_right k7 2) (hlk _ _) (fun i=>i=fb∨i=kb) (fun i hi hne=>?_) (fun i e=>by rcases e with e|e;rw [e];exact w.w.lo;rw [e];exact hkh) (fun e=>by rcases e with e|e;exact w.rf e;exact hkr e.symm) htb hpb hnB (if_pos rfl)
        ·have hA':rowA (π3 (k7+1)) (l++[d'])=some ⟨π3 (k7+1),0,none⟩:=if_neg (by simp)
         have hK':rowK (l++[d'])=capOf 11:=if_neg (by simp)
         have hL':(l++[d']).length=l.length+1:=by simp
         rw [hA',hK',hL']
         exact hw
        ·show (if i=fb then _ else if i=kb then none else if i < B.n then H7.m i else none)=_
         rw [if_neg (fun e=>hne (.inl e)),if_neg (fun e=>hne (.inr e))];exact if_pos hi
       ·rw [dcs_app]
        exact (a.loc (k7+1) (Nat.lt_succ_self _)).trans ((look_cons _ _ _).trans (if_pos rfl))
       ·exact Nat.le_trans hnB (a.lo (k7+1) (Nat.lt_succ_self _))
       ·exact Nat.ne_of_gt (Nat.lt_of_lt_of_le hfn (a.lo (k7+1) (Nat.lt_succ_self _)))
       ·exact Nat.ne_of_gt (Nat.lt_of_lt_of_le hrn (a.lo (k7+1) (Nat.lt_succ_self _)))
     ·clear w hrow
      rintro kb' B9 π9 s9 ⟨w,hrow⟩
      have hl1:(l++[d']).length=l.length+1:=by simp
      rw [← hl1] at e3
      dsimp only at w hrow ⊢
      by_cases h6:6 < (l++[d']).length
      ·rw [if_pos h6] at e3
       rcases e4 with ⟨rfl,rfl,rfl⟩|⟨rfl,u5,e5,e6⟩
       ·repeat (first|refine Y1v ?_|((with_reducible apply (RS.callEx (g0:=17)));(iterate 3 exact rfl);intro B2 hB2;have hrow:=hrow.abs hB2;refine ⟨_,fail_ex hL (w.w.q.p.absd w.w.q.d hB2) 4,?_⟩;rintro v H2 π2 ⟨rfl,p',o'⟩ sp2 hle2;have hrow:=hrow.off o' hB2.dom hpb;have w:=w.step hB2 p' sp2.dom o')|((with_reducible apply (RS.callEx (g0:=24)));(iterate 3 exact rfl);intro B3 hB3;have hrow:=hrow.abs hB3;refine ⟨_,take_ex hL (w.w.q.p.absd w.w.q.d hB3) _ e3,?_⟩;rintro v H3 π3 ⟨rfl,p3,o3⟩ sp3 hle3;have hrow:=hrow.off o3 hB3.dom hpb;have w:=w.step hB3 p3 sp3.dom o3)|refine Y25 ?_|refine Y6 ?_|refine Y0 ?_|refine Y34 ?_|refine Y1 ?_|refine Y5 ?_|refine Yf ?_|refine Y24 ?_)
        refine joinN_n rfl fun B' a=>⟨(_,_),?_,w.ends a⟩
        (repeat' (first|exact trivial|exact rfl|apply And.intro));done
       ·repeat (first|refine Y1v ?_|((with_reducible apply (RS.callEx (g0:=17)));(iterate 3 exact rfl);intro B2 hB2;have hrow:=hrow.abs hB2;refine ⟨_,fail_ex hL (w.w.q.p.absd w.w.q.d hB2) 4,?_⟩;rintro v H2 π2 ⟨rfl,p',o'⟩ sp2 hle2;have hrow:=hrow.off o' hB2.dom hpb;have w:=w.step hB2 p' sp2.dom o')|((with_reducible apply (RS.callEx (g0:=24)));(iterate 3 exact rfl);intro B3 hB3;have hrow:=hrow.abs hB3;refine ⟨_,take_ex hL (w.w.q.p.absd w.w.q.d hB3) _ e3,?_⟩;rintro v H3 π3 ⟨rfl,p3,o3⟩ sp3 hle3;have hrow:=hrow.off o3 hB3.dom hpb;have w:=w.step hB3 p3 sp3.dom o3)|((with_reducible apply (RS.callEx (g0:=26)));(iterate 3 exact rfl);intro B4 hB4;have hrow:=hrow.abs hB4;refine ⟨_,want_ex hL (w.w.q.p.absd w.w.q.d hB4) _ e5,?_⟩;rintro v H4 π4 ⟨rfl,p4,o4⟩ sp4 hle4;have hrow:=hrow.off o4 hB4.dom hpb;have w:=w.step hB4 p4 sp4.dom o4)|refine Y25 ?_|refine Y6 ?_|refine Y0 ?_|refine Y1y ?_|refine Y1 ?_|refine Y5 ?_|refine Y3 ?_)
        refine roundN_n rfl fun B' a=>⟨(m,l++[d'],u5,kb'),?_,⟨w.ends a,hrow.abs a,fun hc=>absurd ((take_fk e3).symm.trans (want_fk e5 hc)) (fail_fk (by decide)),e6⟩,Nat.lt_succ_self m⟩
        (repeat' (first|exact trivial|exact rfl|apply And.intro));done
      ·rw [if_neg h6] at e3
       rcases e4 with ⟨rfl,rfl,rfl⟩|⟨rfl,u5,e5,e6⟩
       ·repeat (first|refine Y1v ?_|((with_reducible apply (RS.callEx (g0:=24)));(iterate 3 exact rfl);intro B3 hB3;have hrow:=hrow.abs hB3;refine ⟨_,take_ex hL (w.w.q.p.absd w.w.q.d hB3) _ e3,?_⟩;rintro v H3 π3 ⟨rfl,p3,o3⟩ sp3 hle3;have hrow:=hrow.off o3 hB3.dom hpb;have w:=w.step hB3 p3 sp3.dom o3)|refine Y25 ?_|refine Y7 ?_|refine Y0 ?_|(with_reducible first|apply W.seq|apply W.exit|apply W.skip|apply thenK_n|apply thenK_e|apply blockK_n|apply roundN_e)|refine Y1 ?_|refine Y5 ?_|refine Y3 ?_|refine Yf ?_|refine Y24 ?_)
        refine joinN_n rfl fun B' a=>⟨(_,_),?_,w.ends a⟩
        (repeat' (first|exact trivial|exact rfl|apply And.intro));done
       ·repeat (first|refine Y1v ?_|((with_reducible apply (RS.callEx (g0:=24)));(iterate 3 exact rfl);intro B3 hB3;have hrow:=hrow.abs hB3;refine ⟨_,take_ex hL (w.w.q.p.absd w.w.q.d hB3) _ e3,?_⟩;rintro v H3 π3 ⟨rfl,p3,o3⟩ sp3 hle3;have hrow:=hrow.off o3 hB3.dom hpb;have w:=w.step hB3 p3 sp3.dom o3)|((with_reducible apply (RS.callEx (g0:=26)));(iterate 3 exact rfl);intro B4 hB4;have hrow:=hrow.abs hB4;refine ⟨_,want_ex hL (w.w.q.p.absd w.w.q.d hB4) _ e5,?_⟩;rintro v H4 π4 ⟨rfl,p4,o4⟩ sp4 hle4;have hrow:=hrow.off o4 hB4.dom hpb;have w:=w.step hB4 p4 sp4.dom o4)|refine Y25 ?_|refine Y7 ?_|refine Y0 ?_|refine Y1y ?_|refine Y1 ?_|refine Y3 ?_)
        refine roundN_n rfl fun B' a=>⟨(m,l++[d'],u5,kb'),?_,⟨w.ends a,hrow.abs a,fun _=>Nat.le_of_not_lt h6,e6⟩,Nat.lt_succ_self m⟩
        (repeat' (first|exact trivial|exact rfl|apply And.intro));done
 ·rintro ⟨A,c⟩ B π3 sB w
  dsimp only at w ⊢
  cases his:u3.is (tokN L) (b1 123) with
  | true =>
   rw [if_pos his] at h4
   repeat (first|refine Y21 ?_|((with_reducible apply (RS.callEx (g0:=40)));(iterate 3 exact rfl);intro B5 hB5;have hfb5:fb < B5.n:=hB5.dom _ _ (hB5.up _ _ w.w.s);have hrb5:rb < B5.n:=hB5.dom _ _ (hB5.up _ _ w.r);have hlo5:h.n≤B5.n:=Nat.le_trans w.rlo (Nat.le_of_lt hrb5);refine ⟨_,stmt_ok hL _ _ _ _ h4 _ _ _ _ (w.w.q.p.absd w.w.q.d hB5),?_⟩;rintro v H5 π5 ⟨b5,rfl,hs5,p5,o5⟩ sp5 hle5;have w:=w.step hB5 p5 sp5.dom o5)|((with_reducible apply (RS.storeB (cs':=funcDC d A ps.length c (ptrC b5))));(iterate 3 exact rfl);exact w.w.s;exact w.w.q.d _ _ w.w.s;exact hfw;exact Nat.le_of_ble_eq_true rfl;(iterate 3 exact rfl);(have w:=w.write ⟨⟨funcDC d A ps.length c (ptrC b5)⟩,53⟩);(have hs5:=hs5.up (set_upto (c:=⟨⟨funcDC d A ps.length c (ptrC b5)⟩,53⟩) hfb5) (Nat.le_refl _)))|refine Y29 ?_|refine Y1x ?_|((with_reducible first|apply RS.move|apply RS.not|apply RS.fieldAddr);iterate 3 exact rfl)|refine Y0 ?_|refine Y1a ?_|refine Y1 ?_|refine Y3 ?_)
   refine endsK_ret _ (.cons (.baseN (vs:=funcDC d A ps.length c (ptrC b5)) rfl (by show (if rb=rb then _ else _)=_;rw [if_pos rfl]) (Nat.le_of_ble_eq_true rfl) rfl) .nil) fun B' a=>?_
   have e:=(w.w.q.other ⟨⟨funcDC d A ps.length c (ptrC b5)⟩,53⟩ w.rlo w.rp htr (w.w.q.d _ _ w.r)).ends a
   exact ⟨A,c,b5,d,rfl,rfl,(hs5.up (set_upto hrb5) hlo5).up (fun i _ c hc=>a.up i c hc) (Nat.le_refl _),e.1,e.2⟩
  | false =>
   rw [if_neg (by rw [his];decide)] at h4
   repeat (first|refine Y21 ?_|((with_reducible apply (RS.callEx (g0:=17)));(iterate 3 exact rfl);intro B2 hB2;refine ⟨_,fail_ex hL (w.w.q.p.absd w.w.q.d hB2) 11,?_⟩;rintro v H2 π2 ⟨rfl,p',o'⟩ sp2 hle2;have w:=w.step hB2 p' sp2.dom o')|((with_reducible apply (RS.callEx (g0:=40)));(iterate 3 exact rfl);intro B5 hB5;have hfb5:fb < B5.n:=hB5.dom _ _ (hB5.up _ _ w.w.s);have hrb5:rb < B5.n:=hB5.dom _ _ (hB5.up _ _ w.r);have hlo5:h.n≤B5.n:=Nat.le_trans w.rlo (Nat.le_of_lt hrb5);refine ⟨_,stmt_ok hL _ _ _ _ h4 _ _ _ _ (w.w.q.p.absd w.w.q.d hB5),?_⟩;rintro v H5 π5 ⟨b5,rfl,hs5,p5,o5⟩ sp5 hle5;have w:=w.step hB5 p5 sp5.dom o5)|((with_reducible apply (RS.storeB (cs':=funcDC d A ps.length c (ptrC b5))));(iterate 3 exact rfl);exact w.w.s;exact w.w.q.d _ _ w.w.s;exact hfw;exact Nat.le_of_ble_eq_true rfl;(iterate 3 exact rfl);(have w:=w.write ⟨⟨funcDC d A ps.length c (ptrC b5)⟩,53⟩);(have hs5:=hs5.up (set_upto (c:=⟨⟨funcDC d A ps.length c (ptrC b5)⟩,53⟩) hfb5) (Nat.le_refl _)))|refine Y29 ?_|refine Y1x ?_|((with_reducible first|apply RS.move|apply RS.not|apply RS.fieldAddr);iterate 3 exact rfl)|refine Y0 ?_|refine Yz ?_|refine Y1 ?_|refine Y5 ?_)
   refine endsK_ret _ (.cons (.baseN (vs:=funcDC d A ps.length c (ptrC b5)) rfl (by show (if rb=rb then _ else _)=_;rw [if_pos rfl]) (Nat.le_of_ble_eq_true rfl) rfl) .nil) fun B' a=>?_
   have e:=(w.w.q.other ⟨⟨funcDC d A ps.length c (ptrC b5)⟩,53⟩ w.rlo w.rp htr (w.w.q.d _ _ w.r)).ends a
   exact ⟨A,c,b5,d,rfl,rfl,(hs5.up (set_upto hrb5) hlo5).up (fun i _ c hc=>a.up i c hc) (Nat.le_refl _),e.1,e.2⟩
end
def keptB (e:TypeId):Bool:=!(Nat.beq e 66 || Nat.beq e 37 || Nat.beq e 85 || Nat.beq e 53)
def KeptE (h h':Hp):Prop:=∀ i c,h.m i=some c→keptB c.elem=true→h'.m i=some c
theorem RowAt.upE {h h':Hp} {lo:Nat} {e:TypeId} {A:Option Addr} {cs:List Value} (r:RowAt h lo e A cs) (hu:KeptE h h') (he:keptB e=true):RowAt h' 0 e A cs:=by
 rcases r with ⟨h1,h2⟩|⟨b,h1,h2,h3⟩
 ·exact .inl ⟨h1,h2⟩
 ·exact .inr ⟨b,h1,Nat.zero_le _,hu _ _ h3 he⟩
theorem ExprAt.upE {h h':Hp} {lo:Nat} (hu:KeptE h h'):∀ {b:Nat} {e:ExprS},ExprAt h lo b e→ExprAt h' 0 b e:=by
 intro b e he
 induction he with
 | mk h0 hm hd hk hlen hr ih=>exact .mk (Nat.zero_le _) (hu _ _ hm rfl) (hd.upE hu rfl) (hk.upE hu rfl) hlen ih
theorem StmtAt.upE {h h':Hp} {lo:Nat} (hu:KeptE h h'):∀ {b:Nat} {e:StmtS},StmtAt h lo b e→StmtAt h' 0 b e:=by
 intro b e he
 induction he with
 | mk h0 hm hd hE hk hlen hr ih =>
  refine .mk (Nat.zero_le _) (hu _ _ hm rfl) (hd.upE hu rfl) ?_ (hk.upE hu rfl) hlen ih
  rename_i e _ _ _ _ _ _ _
  cases e with
  | none=>exact hE
  | some e=>obtain ⟨b,h1,h2⟩:=hE;exact ⟨b,h1,h2.upE hu⟩
def FunAt (h:Hp) (c:List Value) (f:FuncDS):Prop:=∃ A k b d,d.name=f.name∧c=funcDC d A f.params.length k (ptrC b)∧StmtAt h 0 b f.body
def rA {α:Type} (b:Nat) (l:List α):Option Addr:=if l=[] then none else some ⟨b,0,none⟩
def rK {α:Type} (sz:Nat) (l:List α):Nat:=if l=[] then 0 else capOf sz
def unitC (gb:Nat) (gs:List (List Value)) (fb:Nat) (fs:List (List Value)):List Value:=[.slice none 0 0,.slice (rA gb gs) gs.length (rK 12 gs),.slice (rA fb fs) fs.length (rK 13 fs)]
structure UnitAt (h:Hp) (ub:Nat) (u:UnitS) (gb:Nat) (gs:List (List Value)) (fb:Nat) (fs:List (List Value)):Prop where
 m:h.m ub=some ⟨⟨unitC gb gs fb fs⟩,37⟩
 gl:gs.length=u.globals.length
 fl:fs.length=u.funcs.length
 g:gs≠[]→h.m gb=some ⟨⟨gs.flatten⟩,85⟩
 f:fs≠[]→h.m fb=some ⟨⟨fs.flatten⟩,53⟩
 gs12:∀ c∈gs,c.length=12
 fs13:∀ c∈fs,c.length=13
 has:∀ (i:Nat) (c:List Value) (f:FuncDS),fs[i]?=some c→u.funcs[i]?=some f→FunAt h c f
 uw:rwM≤ub
 gw:gs≠[]→rwM≤gb
 fw:fs≠[]→rwM≤fb
theorem UnitAt.kept {h h':Hp} {ub:Nat} {u:UnitS} {gb:Nat} {gs:List (List Value)} {fb:Nat} {fs:List (List Value)} (w:UnitAt h ub u gb gs fb fs) (hu:∀ i c,h.m i=some c→c.elem≠66→h'.m i=some c):UnitAt h' ub u gb gs fb fs :=
 ⟨hu _ _ w.m (fun hc=>absurd (show (37:Nat)=66 from hc) (by decide)),w.gl,w.fl,fun e=>hu _ _ (w.g e) (fun hc=>absurd (show (85:Nat)=66 from hc) (by decide)),fun e=>hu _ _ (w.f e) (fun hc=>absurd (show (53:Nat)=66 from hc) (by decide)),w.gs12,w.fs13,fun i c f h1 h2=>by
  obtain ⟨A,k,b,d,hnm,h3,h4⟩:=w.has i c f h1 h2
  exact ⟨A,k,b,d,hnm,h3,h4.upE fun i c hc hk=>hu i c hc fun e=>by rw [e] at hk;exact absurd hk (by decide)⟩,w.uw,w.gw,w.fw⟩
structure NowU (L:List TokS) (tb cap pb:Nat) (h0 B:Hp) (st:PS) (ub:Nat) (u:UnitS) (gb:Nat) (gs:List (List Value)) (fb:Nat) (fs:List (List Value)):Prop where
 p:ParAt L tb cap pb B st
 d:∀ i b,B.m i=some b→i < B.n
 u:UnitAt B ub u gb gs fb fs
 k:KeptE h0 B
theorem KeptE.trans {a b c:Hp} (h1:KeptE a b) (h2:KeptE b c):KeptE a c:=fun i x hx hk=>h2 i x (h1 i x hx hk) hk
section
variable {L:List TokS} {tb cap pb:Nat} {h0 B B1 H1:Hp} {st st':PS} {ub:Nat} {u:UnitS} {gb:Nat} {gs:List (List Value)} {fb:Nat} {fs:List (List Value)}
theorem NowU.ends {P:Program} {π:Nat→Nat} {k:Nat} {l:List (Nat × Option Blk)} (w:NowU L tb cap pb h0 B st ub u gb gs fb fs) (a:Absb (P:=P) ⟨B,π,k,l⟩ B1):NowU L tb cap pb h0 B1 st ub u gb gs fb fs :=
 ⟨w.p.absd w.d a,a.dom,w.u.kept fun i c hc _=>a.up i c hc,w.k.trans fun i c hc _=>a.up i c hc⟩
theorem NowU.step0 (w:NowU L tb cap pb h0 B st ub u gb gs fb fs) (p':ParAt L tb cap pb H1 st') (d:∀ i c,H1.m i=some c→i < H1.n) (o':OffP pb B H1):NowU L tb cap pb h0 H1 st' ub u gb gs fb fs :=
 ⟨p',d,w.u.kept fun i c hc he=>o'.keep hc (w.d _ _ hc) fun e=>by subst e;rw [w.p.par] at hc;cases hc;exact he rfl,w.k.trans fun i c hc hk=>o'.keep hc (w.d _ _ hc) fun e=>by subst e;rw [w.p.par] at hc;cases hc;exact absurd (show keptB 66=true from hk) (by decide)⟩
theorem NowU.step {P:Program} {π:Nat→Nat} {k:Nat} {l:List (Nat × Option Blk)} (w:NowU L tb cap pb h0 B st ub u gb gs fb fs) (a:Absb (P:=P) ⟨B,π,k,l⟩ B1) (p':ParAt L tb cap pb H1 st') (d:∀ i c,H1.m i=some c→i < H1.n) (o':OffP pb B1 H1):NowU L tb cap pb h0 H1 st' ub u gb gs fb fs :=
 (w.ends a).step0 p' d o'
theorem ne_elem {H:Hp} {i j:Nat} {c1 c2:Blk} (h1:H.m i=some c1) (h2:H.m j=some c2) (he:c1.elem≠c2.elem):i≠j:=fun e=>by subst e;rw [h1] at h2;cases h2;exact he rfl
theorem ne_elemB {H:Hp} {i j:Nat} {c1 c2:Blk} (h1:H.m i=some c1) (h2:H.m j=some c2) (he:Nat.beq c1.elem c2.elem=false):i≠j:=ne_elem h1 h2 fun e=>by rw [e] at he;simp at he
theorem NowU.pushF {H:Hp} {fb':Nat} {c:List Value} {f:FuncDS} (w:NowU L tb cap pb h0 H st ub u gb gs fb fs) (up:∀ i c,i≠ub→(fs≠[]→i≠fb)→H.m i=some c→B.m i=some c) (hd:∀ i b,B.m i=some b→i < B.n) (hm:B.m ub=some ⟨⟨unitC gb gs fb' (fs++[c])⟩,37⟩) (hf:B.m fb'=some ⟨⟨(fs++[c]).flatten⟩,53⟩) (hc:FunAt H c f) (hcl:c.length=13) (hfw:rwM≤fb') :
 NowU L tb cap pb h0 B st ub ⟨u.globals,u.funcs++[f]⟩ gb gs fb' (fs++[c]):=by
 have up2:∀ i c,H.m i=some c→c.elem≠37→c.elem≠53→B.m i=some c:=fun i c hi h1 h2=>up i c (ne_elem hi w.u.m h1) (fun e=>ne_elem hi (w.u.f e) h2) hi
 have ke:KeptE H B:=fun i c hi hk=>up2 i c hi (fun e=>by rw [e] at hk;exact absurd hk (by decide)) (fun e=>by rw [e] at hk;exact absurd hk (by decide))
 refine ⟨⟨up2 _ _ w.p.tok (fun e=>absurd (show (56:Nat)=37 from e) (by decide)) (fun e=>absurd (show (56:Nat)=53 from e) (by decide)),up2 _ _ w.p.par (fun e=>absurd (show (66:Nat)=37 from e) (by decide)) (fun e=>absurd (show (66:Nat)=53 from e) (by decide)),w.p.fits,w.p.rw,w.p.ne⟩,hd,⟨hm,w.u.gl,by simp [w.u.fl],fun e=>up2 _ _ (w.u.g e) (fun e=>absurd (show (85:Nat)=37 from e) (by decide)) (fun e=>absurd (show (85:Nat)=53 from e) (by decide)),fun _=>hf,w.u.gs12,?_,?_,w.u.uw,w.u.gw,fun _=>hfw⟩,w.k.trans ke⟩
 ·intro x hx
  rcases List.mem_append.1 hx with e|e
  ·exact w.u.fs13 x e
  ·rw [List.mem_singleton] at e;rw [e];exact hcl
 ·intro i x f' hx hf'
  dsimp only at hf'
  by_cases hi:i < fs.length
  ·rw [List.getElem?_append_left hi] at hx
   rw [List.getElem?_append_left (by rw [← w.u.fl];exact hi)] at hf'
   obtain ⟨A,k,b,d,hnm,h3,h4⟩:=w.u.has i x f' hx hf'
   exact ⟨A,k,b,d,hnm,h3,h4.upE ke⟩
  ·have hlt:=(List.getElem?_eq_some_iff.1 hx).1
   have hi:i=fs.length:=by simp at hlt;omega
   subst hi
   rw [List.getElem?_append_right (Nat.le_refl _)] at hx
   rw [List.getElem?_append_right (by rw [w.u.fl];exact Nat.le_refl _)] at hf'
   simp [w.u.fl] at hx hf'
   subst hx;subst hf'
   obtain ⟨A,k,b,d,hnm,h3,h4⟩:=hc
   exact ⟨A,k,b,d,hnm,h3,h4.upE ke⟩
theorem NowU.pushG {H:Hp} {gb':Nat} {c:List Value} {d:DeclS} (w:NowU L tb cap pb h0 H st ub u gb gs fb fs) (up:∀ i c,i≠ub→(gs≠[]→i≠gb)→H.m i=some c→B.m i=some c) (hd:∀ i b,B.m i=some b→i < B.n) (hm:B.m ub=some ⟨⟨unitC gb' (gs++[c]) fb fs⟩,37⟩) (hf:B.m gb'=some ⟨⟨(gs++[c]).flatten⟩,85⟩) (hcl:c.length=12) (hfw:rwM≤gb') :
 NowU L tb cap pb h0 B st ub ⟨u.globals++[d],u.funcs⟩ gb' (gs++[c]) fb fs:=by
 have up2:∀ i c,H.m i=some c→c.elem≠37→c.elem≠85→B.m i=some c:=fun i c hi h1 h2=>up i c (ne_elem hi w.u.m h1) (fun e=>ne_elem hi (w.u.g e) h2) hi
 have ke:KeptE H B:=fun i c hi hk=>up2 i c hi (fun e=>by rw [e] at hk;exact absurd hk (by decide)) (fun e=>by rw [e] at hk;exact absurd hk (by decide))
 refine ⟨⟨up2 _ _ w.p.tok (fun e=>absurd (show (56:Nat)=37 from e) (by decide)) (fun e=>absurd (show (56:Nat)=85 from e) (by decide)),up2 _ _ w.p.par (fun e=>absurd (show (66:Nat)=37 from e) (by decide)) (fun e=>absurd (show (66:Nat)=85 from e) (by decide)),w.p.fits,w.p.rw,w.p.ne⟩,hd,⟨hm,by simp [w.u.gl],w.u.fl,fun _=>hf,fun e=>up2 _ _ (w.u.f e) (fun e=>absurd (show (53:Nat)=37 from e) (by decide)) (fun e=>absurd (show (53:Nat)=85 from e) (by decide)),?_,w.u.fs13,?_,w.u.uw,fun _=>hfw,w.u.fw⟩,w.k.trans ke⟩
 ·intro x hx
  rcases List.mem_append.1 hx with e|e
  ·exact w.u.gs12 x e
  ·rw [List.mem_singleton] at e;rw [e];exact hcl
 ·intro i x f' hx hf'
  obtain ⟨A,k,b,d,hnm,h3,h4⟩:=w.u.has i x f' hx hf'
  exact ⟨A,k,b,d,hnm,h3,h4.upE ke⟩
theorem outer_iff {T:Nat→TokS} {n:Nat} {u u':UnitS} {st t:PS} (h:outerS T n u st=some (u',t)):(typedT (st.tok T)=false∧u'=u∧t=st.fail T 11)∨(typedT (st.tok T)=true∧st.is T bStruct=false∧∃ s u1 d u2,specS T st=some (s,u1)∧restS T n s u1=some (d,u2) ∧
 ((d.ty.dims = [] ∧ u2.is T (b1 40) = true ∧ ∃ f u3, functionS T n d u2 = some (f, u3) ∧ u' = ⟨u.globals, u.funcs ++ [f]⟩ ∧ t = if 60 < u.funcs.length + 1 then u3.fail0 4 d.pos else u3) ∨
  (¬ (d.ty.dims=[]∧u2.is T (b1 40)=true)∧∃ u3 u4,u2.take T (b1 61)=some (false,u3)∧u3.want T (b1 59)=some u4∧u'=⟨u.globals++[d],u.funcs⟩∧t=if 60 < u.globals.length+1 then u4.fail0 4 d.pos else u4))):=by
 unfold outerS at h
 cases ht:typedT (st.tok T) with
 | false =>
  rw [ht,if_pos rfl] at h
  simp only [Option.some.injEq,Prod.mk.injEq] at h
  exact .inl ⟨rfl,h.1.symm,h.2.symm⟩
 | true =>
  rw [ht,if_neg (by decide)] at h
  split at h
  ·cases h
  rename_i hs
  obtain ⟨⟨s,u1⟩,h1,h2⟩:=bind_some' h
  obtain ⟨⟨d,u2⟩,h3,h4⟩:=bind_some' h2
  dsimp only at h4
  refine .inr ⟨rfl,by simpa using hs,s,u1,d,u2,h1,h3,?_⟩
  split at h4
  ·rename_i hc
   obtain ⟨⟨f,u3⟩,h5,h6⟩:=bind_some' h4
   simp only [Option.some.injEq,Prod.mk.injEq] at h6
   exact .inl ⟨hc.1,hc.2,f,u3,h5,h6.1.symm,h6.2.symm⟩
  ·rename_i hc
   obtain ⟨⟨b,u3⟩,h5,h6⟩:=bind_some' h4
   cases b with
   | true=>cases h6
   | false =>
    simp only [Bool.false_eq_true,if_false] at h6
    obtain ⟨u4,h7,h8⟩:=bind_some' h6
    simp only [Option.some.injEq,Prod.mk.injEq] at h8
    exact .inr ⟨hc,u3,u4,h5,h7,h8.1.symm,h8.2.symm⟩
end
section
variable {L:List TokS} {tb cap pb:Nat} {h:Hp} {st:PS} {ub:Nat} {u u':UnitS} {gb:Nat} {gs:List (List Value)} {fb:Nat} {fs:List (List Value)}
set_option maxHeartbeats 4000000 in
theorem outer_ok (hL:ToksOK L) {n:Nat} {t:PS} (hs:outerS (tokN L) n u st=some (u',t)) (w:NowU L tb cap pb h h st ub u gb gs fb fs) (hg:gs.length≤60) (hf:fs.length≤60):EX Tryd.prog 12 [ptrC pb,ptrC ub] h (fun v h'=>v=.tuple ⟨[]⟩∧∃ gb' gs' fb' fs',NowU L tb cap pb h h' t ub u' gb' gs' fb' fs'):=by
 refine EX.intro (fn:=Tryd.f12) (c:=(Tryd.f12.body.getD .skip)) Tryd.func12 (by kernel_rfl) Tryd.ntmps12 (by kernel_rfl) fun π s0=>?_
 conv=>arg 2;whnf
 rcases outer_iff hs with ⟨ht,rfl,rfl⟩|⟨ht,his,s,u1,d,u2,e1,e2,hr⟩
 ·repeat (first|refine Y2z ?_|((with_reducible apply (RS.callEx (g0:=17)));(iterate 3 exact rfl);intro B2 hB2;refine ⟨_,fail_ex hL (w.p.absd w.d hB2) 11,?_⟩;rintro v H2 π2 ⟨rfl,p',o'⟩ sp2 hle2;have w:=w.step hB2 p' sp2.dom o')|refine Y1f ?_|refine Y0 ?_|refine Yy ?_|refine Y1 ?_|refine Y5 ?_)
  exact endsK_ret _ .nil fun B' a=>⟨rfl,gb,gs,fb,fs,w.ends a⟩
 ·have hdim:=(rest_ex hL (h:=h.set pb (psB L tb cap u1)) (w.p.set (spec_fits e1 w.p.fits)) e2).1
  ((with_reducible apply W.seq);repeat (fail))
  ((with_reducible apply W.seq);repeat (first|refine Y2z ?_|refine Y1f ?_|refine Y0 ?_|refine Y1 ?_|refine Y1h ?_|refine Y3 ?_))
  ((with_reducible apply W.seq);repeat (fail))
  ((with_reducible apply W.seq);repeat (first|refine Y28 ?_|refine Yq ?_|refine Yd ?_|refine Yn ?_|refine Y0 ?_|refine Y1 ?_|refine Y1h ?_|refine Y3 ?_))
  ((with_reducible apply W.seq);repeat (first|((with_reducible apply (RS.callEx (g0:=20)));(iterate 3 exact rfl);intro B3 hB3;refine ⟨_,spec_ex hL (w.p.absd w.d hB3) e1,?_⟩;rintro v H3 π3 ⟨rfl,p3,o3⟩ sp3 hle3;have w:=w.step hB3 p3 sp3.dom o3)|refine Yq ?_|refine Y2 ?_|refine Y8 ?_|refine Y0 ?_|refine Y1 ?_|refine Ym ?_))
  ((with_reducible apply W.seq);repeat (first|((with_reducible apply (RS.callEx (g0:=21)));(iterate 3 exact rfl);intro B4 hB4;refine ⟨_,(rest_ex hL (w.p.absd w.d hB4) e2).2,?_⟩;rintro v H4 π4 ⟨rfl,p4,o4⟩ sp4 hle4;have w:=w.step hB4 p4 sp4.dom o4)|refine Yq ?_|refine Yk ?_|refine Y2 ?_|refine Y8 ?_|refine Y0 ?_|refine Y1 ?_|refine Ym ?_))
  refine W.absorbX fun G π0 a0=>?_
  have hdb:G.m (π4 0)=some ⟨⟨declC d none 0⟩,44⟩:=a0.loc 0 (Nat.lt_succ_self 0)
  replace w:=w.ends a0
  generalize π4 0=db at *
  obtain ⟨⟨s',k',dims⟩,nm,dp⟩:=d
  dsimp only at hdim
  subst hdim
  rcases hr with ⟨_,hp,f,u3,h5,rfl,rfl⟩|⟨hnp,u3,u4,h5,h6,rfl,rfl⟩
  ·have his:=hp
   ((with_reducible apply W.seq);repeat (fail))
   ((with_reducible apply W.seq);repeat (first|refine Y28 ?_|((with_reducible apply RS.load1B);(iterate 3 exact rfl);exact hdb;exact w.d _ _ hdb;exact rfl)|refine Y35 ?_|refine Yb ?_|refine Yu ?_|refine Y0 ?_|refine Y1 ?_|refine Y5 ?_|refine Ym ?_))
   have hdp:db≠pb:=ne_elemB hdb w.p.par rfl
   have hup:ub≠pb:=ne_elemB w.u.m w.p.par rfl
   have hun:=w.d _ _ w.u.m
   with_reducible apply W.seq
   refine W.joinNT (X:=Nat × List Value) (fun _=>[(0,ptrC pb),(1,ptrC ub),(5,ptrC db)]) (fun x B=>NowU L tb cap pb h B u3 ub ⟨u.globals,u.funcs++[f]⟩ gb gs x.1 (fs++[x.2])∧B.m db=some ⟨⟨declC ⟨⟨s',k',[]⟩,nm,dp⟩ none 0⟩,44⟩) ?_ ?_
   ·by_cases hle:fs=[]
    ·subst hle
     have hum:G.m ub=some ⟨⟨[.slice none 0 0,.slice (rA gb gs) gs.length (rK 12 gs),.slice none 0 0]⟩,37⟩:=w.u.m
     repeat (first|refine Y22 ?_|refine Y1e ?_|((with_reducible apply (RS.callYE (g0:=22) (fun id=>id == pb)));(iterate 3 exact rfl);intro B4 he4 hB4;refine ⟨_,function_ok hL rfl h5 (w.p.absd w.d hB4),(fun v H' hq i hi hei=>by obtain ⟨A,c,b,d,_,_,_,_,o⟩:=hq;exact o.2 i (Nat.lt_of_lt_of_le hi hB4.le) (by simpa using hei)),?_⟩;rintro v H5 k5 l5 ⟨A,c,b,d2,hnm2,rfl,hs5,p5,o5⟩ s5 hle5 hm5 hden5 hwf5 hk5;have hdb:=o5.keep (hB4.up _ _ hdb) (hB4.dom _ _ (hB4.up _ _ hdb)) hdp;have hum:=o5.keep (hB4.up _ _ hum) (hB4.dom _ _ (hB4.up _ _ hum)) hup;have w:=w.step hB4 p5 s5.dom o5)|refine Yh ?_|refine Y17 ?_|((with_reducible apply (RS.storeB (cs':=[.slice none 0 0,.slice (rA gb gs) gs.length (rK 12 gs),.slice (some ⟨π0 (k5+1),0,none⟩) 1 (capOf 13)])));(iterate 3 exact rfl);exact ((if_pos hun).trans hum);exact hun;exact w.u.uw;exact Nat.le_of_ble_eq_true rfl;iterate 3 exact rfl)|((with_reducible apply (RS.nilPX mixed [(0,1),(0,2),(0,3),(0,4),(4,5),(3,5),(2,5),(1,5),(0,5),(5,6),(4,6),(3,6),(2,6),(1,6),(0,6),(4,7),(3,7),(2,7),(1,7),(0,7),(4,8),(3,8),(2,8),(1,8),(0,8),(0,9)]));kernel_rfl;(repeat (refine ⟨fun x y hx hy=>(by obtain rfl:=Option.some.inj hx;obtain rfl:=Option.some.inj hy;exact pairR_free rfl rfl rfl rfl rfl rfl rfl (Nat.zero_le _) rfl),?_⟩));exact trivial;exact sideOK_all (j:=pb) (b:=ub) (Ne.symm hup) (by repeat' (first|exact trivial|exact .inl rfl|exact .inr rfl|apply And.intro)))|refine Yo ?_|refine Y1 ?_)
     have hlk:∀ (x y:Option Blk) (j:Nat),j < k5→lookB ((k5+1,x)::(k5,y)::l5) j=lookB l5 j:=fun x y j hj=>by rw [look_cons,look_cons,if_neg (Nat.ne_of_gt (Nat.lt_succ_of_lt hj)),if_neg (Nat.ne_of_gt hj)]
     refine joinN_n rfl fun B' a=>?_
     have up:=gen_up hden5 a rfl (Nat.le_add_right k5 2) (hlk _ _) (fun i=>i=ub) (fun i hi hne=>by
      show (if i=ub then _ else if i < G.n then H5.m i else none)=_
      rw [if_neg hne];exact if_pos hi)
     refine ⟨(π0 (k5+1),funcDC d2 A f.params.length c (ptrC b)),?_,w.pushF (fun i c h1 h2 hc=>up i c h1 hc) a.dom ((a.up _ _ (if_pos rfl)).trans ?_) ((a.loc (k5+1) (Nat.lt_succ_self _)).trans ((look_cons _ _ _).trans ((if_pos rfl).trans ?_))) ⟨A,c,b,d2,hnm2,rfl,hs5.upE fun _ _ h _=>h⟩ rfl (Nat.le_trans a.rw (a.lo (k5+1) (Nat.lt_succ_self _))),up _ _ (ne_elemB hdb hum rfl) hdb⟩
     ·(repeat' (first|exact trivial|exact rfl|apply And.intro));done
     ·unfold unitC rA rK
      simp
     ·simp
      try rfl
    ·have hum:G.m ub=some ⟨⟨[.slice none 0 0,.slice (rA gb gs) gs.length (rK 12 gs),.slice (some ⟨fb,0,none⟩) fs.length (capOf 13)]⟩,37⟩:=by
      have:=w.u.m
      unfold unitC at this
      rw [show rA fb fs=some ⟨fb,0,none⟩ from if_neg hle,show rK 13 fs=capOf 13 from if_neg hle] at this
      exact this
     have hfn:=w.d _ _ (w.u.f hle)
     have huf:ub≠fb:=ne_elemB w.u.m (w.u.f hle) rfl
     repeat (first|refine Y22 ?_|refine Y1e ?_|((with_reducible apply (RS.callYE (g0:=22) (fun id=>id == pb)));(iterate 3 exact rfl);intro B4 he4 hB4;refine ⟨_,function_ok hL rfl h5 (w.p.absd w.d hB4),(fun v H' hq i hi hei=>by obtain ⟨A,c,b,d,_,_,_,_,o⟩:=hq;exact o.2 i (Nat.lt_of_lt_of_le hi hB4.le) (by simpa using hei)),?_⟩;rintro v H5 k5 l5 ⟨A,c,b,d2,hnm2,rfl,hs5,p5,o5⟩ s5 hle5 hm5 hden5 hwf5 hk5;have hdb:=o5.keep (hB4.up _ _ hdb) (hB4.dom _ _ (hB4.up _ _ hdb)) hdp;have hum:=o5.keep (hB4.up _ _ hum) (hB4.dom _ _ (hB4.up _ _ hum)) hup;have w:=w.step hB4 p5 s5.dom o5)|refine Yh ?_|((with_reducible apply (RS.growXL (j:=fb) (i:=k5)));(iterate 6 exact rfl);exact ((if_pos hfn).trans (w.u.f hle));exact hfn;exact w.u.fw hle;exact flat_len w.u.fs13;exact blt_iff.2 (Nat.lt_succ_self k5);exact ((look_cons _ _ _).trans (if_pos rfl));exact Nat.le_of_ble_eq_true rfl;exact rfl;exact Nat.le_trans (Nat.mul_le_mul_right _ (show fs.length+1≤61 from by omega)) (Nat.le_of_ble_eq_true rfl);exact Nat.le_trans (show fs.length+1≤61 from by omega) (Nat.le_of_ble_eq_true rfl))|((with_reducible apply (RS.storeB (cs':=[.slice none 0 0,.slice (rA gb gs) gs.length (rK 12 gs),.slice (some ⟨π0 (k5+1),0,none⟩) (fs.length+1) (capOf 13)])));(iterate 3 exact rfl);exact ((if_neg huf).trans ((if_pos hun).trans hum));exact hun;exact w.u.uw;exact Nat.le_of_ble_eq_true rfl;iterate 3 exact rfl)|((with_reducible apply (RS.nilPX mixed [(0,1),(0,2),(0,3),(0,4),(4,5),(3,5),(2,5),(1,5),(0,5),(5,6),(4,6),(3,6),(2,6),(1,6),(0,6),(4,7),(3,7),(2,7),(1,7),(0,7),(4,8),(3,8),(2,8),(1,8),(0,8),(0,9)]));kernel_rfl;(repeat (refine ⟨fun x y hx hy=>(by obtain rfl:=Option.some.inj hx;obtain rfl:=Option.some.inj hy;exact pairR_free rfl rfl rfl rfl rfl rfl rfl (Nat.zero_le _) rfl),?_⟩));exact trivial;exact sideTwo_all (i:=pb) (j:=fb) (b:=ub) (Ne.symm hup) (Ne.symm huf) (by repeat' (first|exact trivial|exact .inl rfl|exact .inr rfl|exact .inr (.inl rfl)|exact .inr (.inr rfl)|apply And.intro)))|refine Yo ?_|refine Y1 ?_)
     have hlk:∀ (x y:Option Blk) (j:Nat),j < k5→lookB ((k5+1,x)::(k5,y)::l5) j=lookB l5 j:=fun x y j hj=>by rw [look_cons,look_cons,if_neg (Nat.ne_of_gt (Nat.lt_succ_of_lt hj)),if_neg (Nat.ne_of_gt hj)]
     refine joinN_n rfl fun B' a=>?_
     have up:=gen_up hden5 a rfl (Nat.le_add_right k5 2) (hlk _ _) (fun i=>i=ub∨i=fb) (fun i hi hne=>by
      show (if i=ub then _ else if i=fb then none else if i < G.n then H5.m i else none)=_
      rw [if_neg (fun e=>hne (.inl e)),if_neg (fun e=>hne (.inr e))];exact if_pos hi)
     refine ⟨(π0 (k5+1),funcDC d2 A f.params.length c (ptrC b)),?_,w.pushF (fun i c h1 h2 hc=>up i c (fun e=>by rcases e with e|e;exact h1 e;exact h2 hle e) hc) a.dom ((a.up _ _ (if_pos rfl)).trans ?_) ((a.loc (k5+1) (Nat.lt_succ_self _)).trans ((look_cons _ _ _).trans ((if_pos rfl).trans ?_))) ⟨A,c,b,d2,hnm2,rfl,hs5.upE fun _ _ h _=>h⟩ rfl (Nat.le_trans a.rw (a.lo (k5+1) (Nat.lt_succ_self _))),up _ _ (fun e=>by rcases e with e|e;exact ne_elemB hdb hum rfl e;exact ne_elemB hdb (w.u.f hle) rfl e) hdb⟩
     ·(repeat' (first|exact trivial|exact rfl|apply And.intro));done
     ·unfold unitC rA rK
      simp
     ·simp
      try rfl
   ·clear hdb w
    rintro ⟨fb',c⟩ B9 π9 s9 ⟨w,hdb⟩
    dsimp only at w hdb ⊢
    have hum:B9.m ub=some ⟨⟨[.slice none 0 0,.slice (rA gb gs) gs.length (rK 12 gs),.slice (some ⟨fb',0,none⟩) (u.funcs.length+1) (capOf 13)]⟩,37⟩:=by
     have h1:=w.u.m
     have h2:(fs++[c]).length=u.funcs.length+1:=w.u.fl.trans (by simp)
     unfold unitC at h1
     rw [show rA fb' (fs++[c])=some ⟨fb',0,none⟩ from if_neg (by simp),show rK 13 (fs++[c])=capOf 13 from if_neg (by simp),h2] at h1
     exact h1
    have hf61:u.funcs.length≤60:=by have:=w.u.fl;simp at this;omega
    by_cases h6:60 < u.funcs.length+1
    ·rw [if_pos h6]
     repeat (first|refine Y2k ?_|((with_reducible apply (RS.callEx (g0:=23)));(iterate 3 exact rfl);intro B2 hB2;refine ⟨_,fault0_ex (w.p.absd w.d hB2) 4 dp,?_⟩;rintro v H2 π2 ⟨rfl,p',o'⟩ sp2 hle2;have w:=w.step hB2 p' sp2.dom o')|refine Y13 ?_|refine Y6 ?_|refine Y0 ?_|refine Yy ?_|refine Y1 ?_|refine Y5 ?_)
     exact endsK_ret _ .nil fun B' a=>⟨rfl,gb,gs,fb',fs++[c],w.ends a⟩
    ·rw [if_neg h6]
     repeat (first|((with_reducible apply RS.load1B);(iterate 3 exact rfl);exact hum;exact w.d _ _ hum;exact rfl)|refine Y13 ?_|refine Y7 ?_|refine Y0 ?_|refine Y1m ?_|refine Y1 ?_|refine Y3 ?_)
     exact endsK_ret _ .nil fun B' a=>⟨rfl,gb,gs,fb',fs++[c],w.ends a⟩
  ·have his:u2.is (tokN L) (b1 40)=false:=by
    cases hc:u2.is (tokN L) (b1 40) with
    | false=>rfl
    | true=>exact absurd ⟨rfl,hc⟩ hnp
   ((with_reducible apply W.seq);repeat (fail))
   ((with_reducible apply W.seq);repeat (first|refine Y28 ?_|((with_reducible apply RS.load1B);(iterate 3 exact rfl);exact hdb;exact w.d _ _ hdb;exact rfl)|refine Y35 ?_|refine Yb ?_|refine Yu ?_|refine Y0 ?_|refine Y1 ?_|refine Y1h ?_|refine Y3 ?_))
   ((with_reducible apply W.seq);repeat (first|refine Y1e ?_|refine Y2 ?_|refine Y8 ?_|refine Yi ?_|refine Y0 ?_|refine Y1 ?_|refine Ym ?_))
   refine W.absorbX fun G5 π5 a5=>?_
   replace hdb:=a5.up _ _ hdb
   have hgb:G5.m (π0 0)=some ⟨⟨declC ⟨⟨s',k',[]⟩,nm,dp⟩ none 0++[.pointer none]⟩,85⟩:=a5.loc 0 (Nat.lt_succ_self 0)
   replace w:=w.ends a5
   generalize π0 0=tg at *
   have hdp:db≠pb:=ne_elemB hdb w.p.par rfl
   have hgp:tg≠pb:=ne_elemB hgb w.p.par rfl
   ((with_reducible apply W.seq);repeat (fail))
   ((with_reducible apply W.seq);repeat (first|((with_reducible apply (RS.callEx (g0:=24)));(iterate 3 exact rfl);intro B5 hB5;refine ⟨_,take_ex hL (w.p.absd w.d hB5) _ h5,?_⟩;rintro v H5 π5 ⟨rfl,p5,o5⟩ sp5 hle5;have hdb:=(((OffP.refl pb _).abs hB5).trans o5).keep hdb (w.d _ _ hdb) hdp;have hgb:=(((OffP.refl pb _).abs hB5).trans o5).keep hgb (w.d _ _ hgb) hgp;have w:=w.step hB5 p5 sp5.dom o5)|refine Yq ?_|refine Y0 ?_|refine Y1 ?_|refine Y1h ?_|refine Y3 ?_))
   ((with_reducible apply W.seq);repeat (first|((with_reducible apply (RS.callEx (g0:=26)));(iterate 3 exact rfl);intro B7 hB7;refine ⟨_,want_ex hL (w.p.absd w.d hB7) _ h6,?_⟩;rintro v H7 π7 ⟨rfl,p7,o7⟩ sp7 hle7;have hdb:=(((OffP.refl pb _).abs hB7).trans o7).keep hdb (w.d _ _ hdb) hdp;have hgb:=(((OffP.refl pb _).abs hB7).trans o7).keep hgb (w.d _ _ hgb) hgp;have w:=w.step hB7 p7 sp7.dom o7)|refine Yq ?_|refine Y0 ?_|refine Y1 ?_|refine Ym ?_))
   have hup:ub≠pb:=ne_elemB w.u.m w.p.par rfl
   have hun:=w.d _ _ w.u.m
   with_reducible apply W.seq
   refine W.joinNT (X:=Nat) (fun _=>[(0,ptrC pb),(1,ptrC ub),(5,ptrC db)]) (fun x B=>NowU L tb cap pb h B u4 ub ⟨u.globals++[⟨⟨s',k',[]⟩,nm,dp⟩],u.funcs⟩ x (gs++[declC ⟨⟨s',k',[]⟩,nm,dp⟩ none 0++[.pointer none]]) fb fs∧B.m db=some ⟨⟨declC ⟨⟨s',k',[]⟩,nm,dp⟩ none 0⟩,44⟩) ?_ ?_
   ·by_cases hle:gs=[]
    ·subst hle
     have hum:H7.m ub=some ⟨⟨[.slice none 0 0,.slice none 0 0,.slice (rA fb fs) fs.length (rK 13 fs)]⟩,37⟩:=w.u.m
     repeat (first|refine Y22 ?_|refine Y26 ?_|refine Yh ?_|((with_reducible apply (RS.appendNil (i:=0)));(iterate 8 exact rfl);exact Nat.le_of_ble_eq_true rfl;exact Nat.lt_succ_self 0;exact Nat.le_of_ble_eq_true rfl;exact Nat.le_of_ble_eq_true rfl)|((with_reducible apply (RS.storeB (cs':=[.slice none 0 0,.slice (some ⟨π7 1,0,none⟩) 1 (capOf 12),.slice (rA fb fs) fs.length (rK 13 fs)])));(iterate 3 exact rfl);exact hum;exact hun;exact w.u.uw;exact Nat.le_of_ble_eq_true rfl;iterate 3 exact rfl)|((with_reducible apply (RS.nilPX mixed [(0,1),(0,2),(0,3),(0,4),(4,5),(3,5),(2,5),(1,5),(0,5),(4,6),(3,6),(2,6),(1,6),(0,6),(0,7)]));kernel_rfl;(repeat (refine ⟨fun x y hx hy=>(by obtain rfl:=Option.some.inj hx;obtain rfl:=Option.some.inj hy;exact pairR_free rfl rfl rfl rfl rfl rfl rfl (Nat.zero_le _) rfl),?_⟩));exact trivial;exact sideOK_all (j:=pb) (b:=ub) (Ne.symm hup) (by repeat' (first|exact trivial|exact .inl rfl|exact .inr rfl|apply And.intro)))|refine Yo ?_|refine Y1 ?_)
     refine joinN_n rfl fun B' a=>⟨π7 1,?_,w.pushG (fun i c h1 h2 hc=>a.up i c (by show (if i=ub then _ else H7.m i)=_;rw [if_neg h1];exact hc)) a.dom ((a.up _ _ (if_pos rfl)).trans ?_) ((a.loc 1 (Nat.lt_succ_self 1)).trans ?_) (c:=declC ⟨⟨s',k',[]⟩,nm,dp⟩ none 0++[.pointer none]) rfl (Nat.le_trans a.rw (a.lo 1 (Nat.lt_succ_self 1))),a.up _ _ (by show (if db=ub then _ else H7.m db)=_;rw [if_neg (ne_elemB hdb hum rfl)];exact hdb)⟩
     ·(repeat' (first|exact trivial|exact rfl|apply And.intro));done
     ·unfold unitC rA rK
      simp
     ·show some _=some _
      simp
      try rfl
    ·have hum:H7.m ub=some ⟨⟨[.slice none 0 0,.slice (some ⟨gb,0,none⟩) gs.length (capOf 12),.slice (rA fb fs) fs.length (rK 13 fs)]⟩,37⟩:=by
      have:=w.u.m
      unfold unitC at this
      rw [show rA gb gs=some ⟨gb,0,none⟩ from if_neg hle,show rK 12 gs=capOf 12 from if_neg hle] at this
      exact this
     have hgn:=w.d _ _ (w.u.g hle)
     have hug:ub≠gb:=ne_elemB w.u.m (w.u.g hle) rfl
     repeat (first|refine Y22 ?_|refine Y26 ?_|refine Yh ?_|((with_reducible apply (RS.growXL (j:=gb) (i:=0)));(iterate 6 exact rfl);exact w.u.g hle;exact hgn;exact w.u.gw hle;exact flat_len w.u.gs12;(iterate 2 exact rfl);exact Nat.le_of_ble_eq_true rfl;exact rfl;exact Nat.le_trans (Nat.mul_le_mul_right _ (show gs.length+1≤61 from by omega)) (Nat.le_of_ble_eq_true rfl);exact Nat.le_trans (show gs.length+1≤61 from by omega) (Nat.le_of_ble_eq_true rfl))|((with_reducible apply (RS.storeB (cs':=[.slice none 0 0,.slice (some ⟨π7 1,0,none⟩) (gs.length+1) (capOf 12),.slice (rA fb fs) fs.length (rK 13 fs)])));(iterate 3 exact rfl);exact ((if_neg hug).trans hum);exact hun;exact w.u.uw;exact Nat.le_of_ble_eq_true rfl;iterate 3 exact rfl)|((with_reducible apply (RS.nilPX mixed [(0,1),(0,2),(0,3),(0,4),(4,5),(3,5),(2,5),(1,5),(0,5),(4,6),(3,6),(2,6),(1,6),(0,6),(0,7)]));kernel_rfl;(repeat (refine ⟨fun x y hx hy=>(by obtain rfl:=Option.some.inj hx;obtain rfl:=Option.some.inj hy;exact pairR_free rfl rfl rfl rfl rfl rfl rfl (Nat.zero_le _) rfl),?_⟩));exact trivial;exact sideTwo_all (i:=pb) (j:=gb) (b:=ub) (Ne.symm hup) (Ne.symm hug) (by repeat' (first|exact trivial|exact .inl rfl|exact .inr rfl|exact .inr (.inl rfl)|exact .inr (.inr rfl)|apply And.intro)))|refine Yo ?_|refine Y1 ?_)
     refine joinN_n rfl fun B' a=>⟨π7 1,?_,w.pushG (fun i c h1 h2 hc=>a.up i c (by show (if i=ub then _ else if i=gb then none else H7.m i)=_;rw [if_neg h1,if_neg (h2 hle)];exact hc)) a.dom ((a.up _ _ (if_pos rfl)).trans ?_) ((a.loc 1 (Nat.lt_succ_self 1)).trans ?_) (c:=declC ⟨⟨s',k',[]⟩,nm,dp⟩ none 0++[.pointer none]) rfl (Nat.le_trans a.rw (a.lo 1 (Nat.lt_succ_self 1))),a.up _ _ (by show (if db=ub then _ else if db=gb then none else H7.m db)=_;rw [if_neg (ne_elemB hdb hum rfl),if_neg (ne_elemB hdb (w.u.g hle) rfl)];exact hdb)⟩
     ·(repeat' (first|exact trivial|exact rfl|apply And.intro));done
     ·unfold unitC rA rK
      simp
     ·show some _=some _
      simp
      try rfl
   ·clear hdb w hgb
    rintro gb' B9 π9 s9 ⟨w,hdb⟩
    dsimp only at w hdb ⊢
    have hum:B9.m ub=some ⟨⟨[.slice none 0 0,.slice (some ⟨gb',0,none⟩) (u.globals.length+1) (capOf 12),.slice (rA fb fs) fs.length (rK 13 fs)]⟩,37⟩:=by
     have h1:=w.u.m
     have h2:(gs++[(declC ⟨⟨s',k',[]⟩,nm,dp⟩ none 0++[Value.pointer none])]).length=u.globals.length+1:=w.u.gl.trans (by simp)
     unfold unitC at h1
     rw [show rA gb' (gs++[(declC ⟨⟨s',k',[]⟩,nm,dp⟩ none 0++[.pointer none])])=some ⟨gb',0,none⟩ from if_neg (by simp),show rK 12 (gs++[(declC ⟨⟨s',k',[]⟩,nm,dp⟩ none 0++[.pointer none])])=capOf 12 from if_neg (by simp),h2] at h1
     exact h1
    have hg61:u.globals.length≤60:=by have:=w.u.gl;simp at this;omega
    by_cases h6:60 < u.globals.length+1
    ·rw [if_pos h6]
     repeat (first|refine Y2k ?_|((with_reducible apply (RS.callEx (g0:=23)));(iterate 3 exact rfl);intro B2 hB2;refine ⟨_,fault0_ex (w.p.absd w.d hB2) 4 dp,?_⟩;rintro v H2 π2 ⟨rfl,p',o'⟩ sp2 hle2;have w:=w.step hB2 p' sp2.dom o')|refine Y13 ?_|refine Y6 ?_|refine Y0 ?_|refine Y12 ?_|refine Y1 ?_|refine Y5 ?_)
     exact endsK_normal _ .nil fun B' a=>⟨rfl,gb',_,fb,fs,w.ends a⟩
    ·rw [if_neg h6]
     repeat (first|((with_reducible apply RS.load1B);(iterate 3 exact rfl);exact hum;exact w.d _ _ hum;exact rfl)|refine Y13 ?_|refine Y7 ?_|refine Y0 ?_|refine Y1q ?_|refine Y1 ?_|refine Y3 ?_)
     exact endsK_normal _ .nil fun B' a=>⟨rfl,gb',_,fb,fs,w.ends a⟩
end
def ScanQ (L:List TokS) (h:Hp) (v:Value) (h':Hp):Prop:=∃ tb cap,v=.tuple ⟨[.slice (some ⟨tb,0,none⟩) L.length cap,.agg ⟨[.int .i64 0,.int .i64 0]⟩]⟩∧h'.m tb=some ⟨⟨toksC L⟩,56⟩∧Old h h'
def ParseQ (r:Except (Nat × Nat) UnitS) (v:Value) (h':Hp):Prop:=match r with
 | .error e=>v=.tuple ⟨[.pointer none,.agg ⟨[.int .i64 e.1,.int .i64 e.2]⟩]⟩
 | .ok u=>∃ ub gb gs fb fs,v=.tuple ⟨[ptrC ub,.agg ⟨[.int .i64 0,.int .i64 0]⟩]⟩∧UnitAt h' ub u gb gs fb fs
theorem fail0_fk {st:PS} {k p:Nat} (hk:k≠0):(st.fail0 k p).fk≠0:=by
 unfold PS.fail0
 split
 ·exact hk
 ·assumption
theorem outer_len {T:Nat→TokS} {n:Nat} {u u':UnitS} {st t:PS} (h:outerS T n u st=some (u',t)) (hl:u.globals.length≤60∧u.funcs.length≤60) (ht:t.fk=0):u'.globals.length≤60∧u'.funcs.length≤60:=by
 rcases outer_iff h with ⟨_,rfl,_⟩|⟨_,_,s,u1,d,u2,_,_,⟨_,_,f,u3,_,rfl,e⟩|⟨_,u3,u4,_,_,rfl,e⟩⟩
 ·exact hl
 ·by_cases h6:60 < u.funcs.length+1
  ·rw [if_pos h6] at e;rw [e] at ht;exact absurd ht (fail0_fk (by decide))
  ·refine ⟨hl.1,?_⟩
   simp;omega
 ·by_cases h6:60 < u.globals.length+1
  ·rw [if_pos h6] at e;rw [e] at ht;exact absurd ht (fail0_fk (by decide))
  ·refine ⟨?_,hl.2⟩
   simp;omega
theorem outers_iff {T:Nat→TokS} {m n:Nat} {u u':UnitS} {st t:PS} (h:outersS T m (n+1) u st=some (u',t)):((st.fk≠0∨(st.tok T).kind=0)∧u'=u∧t=st)∨(st.fk=0∧(st.tok T).kind≠0∧∃ u1 v1,outerS T m u st=some (u1,v1)∧outersS T m n u1 v1=some (u',t)):=by
 rw [outersS] at h
 split at h
 ·rename_i hc
  simp only [Option.some.injEq,Prod.mk.injEq] at h
  exact .inl ⟨hc,h.1.symm,h.2.symm⟩
 ·rename_i hc
  obtain ⟨⟨u1,v1⟩,h1,h2⟩:=bind_some' h
  exact .inr ⟨Classical.byContradiction fun e=>hc (.inl e),fun e=>hc (.inr e),u1,v1,h1,h2⟩
section
variable {L:List TokS} {h:Hp}
set_option maxHeartbeats 4000000 in
theorem parse_ok (hL:ToksOK L) {src:ByteArray} {n:Nat} {r:Except (Nat × Nat) UnitS} (hs:parseU n (tokN L)=some r) (hscan:∀ B,(∀ i b,h.m i=some b→B.m i=some b)→EX Tryd.prog 9 [.string src] B (ScanQ L B)):EX Tryd.prog 8 [.string src] h (fun v h'=>ParseQ r v h'∧KeptE h h'):=by
 unfold parseU at hs
 obtain ⟨⟨u,t⟩,h1,h2⟩:=Option.map_eq_some_iff.1 hs
 clear hs
 refine EX.intro (fn:=Tryd.f8) (c:=(Tryd.f8.body.getD .skip)) Tryd.func8 (by kernel_rfl) Tryd.ntmps8 (by kernel_rfl) fun π s0=>?_
 conv=>arg 2;whnf
 ((with_reducible apply W.seq);repeat (first|refine Ys ?_|refine Y8 ?_|refine Y0 ?_|refine Y1 ?_|refine Ym ?_))
 ((with_reducible apply W.seq);repeat (first|((with_reducible apply (RS.callEx (g0:=9)));(iterate 3 exact rfl);intro B1 hB1;refine ⟨_,hscan B1 hB1.up,?_⟩;rintro v H1 π1 ⟨tb,cap,rfl,htb,o1⟩ sp1 hle1;have h30:=hB1.loc 0 (Nat.lt_succ_self 0);have hrb:=(o1.2 _ (hB1.dom _ _ h30)).trans h30;have hrw0:rwM≤π 0:=Nat.le_trans hB1.rw (hB1.lo 0 (Nat.lt_succ_self 0));have hrn0:h.n≤π 0:=hB1.lo 0 (Nat.lt_succ_self 0);have hbd:∀ i b,h.m i=some b→i < h.n:=hB1.bdom;have hk1:KeptE h H1:=fun i c hi _=>by rw [o1.2 i (hB1.dom _ _ (hB1.up _ _ hi))];exact hB1.up _ _ hi)|refine Y4 ?_|refine Y2d ?_|refine Y2 ?_|refine Y8 ?_|refine Y0 ?_|refine Y1 ?_|refine Ym ?_))
 ((with_reducible apply W.seq);repeat (fail))
 ((with_reducible apply W.seq);repeat (first|refine Yu ?_|((with_reducible apply RS.fieldAddr);iterate 3 exact rfl)|refine Yl ?_|refine Y0 ?_|refine Y1 ?_|refine Y1h ?_|refine Y3 ?_))
 ((with_reducible apply W.seq);repeat (first|refine Y2p ?_|refine Yi ?_|refine Y0 ?_|refine Y1 ?_|refine Ym ?_))
 ((with_reducible apply W.seq);repeat (first|((with_reducible first|apply RS.assign|apply RS.box);iterate 3 exact rfl)|refine Yi ?_|refine Y0 ?_|refine Y1 ?_|refine Ym ?_))
 refine W.absorbX fun G π0 a0=>?_
 have htr:=sp1.dom _ _ htb
 have hkG:KeptE h G:=hk1.trans fun i c hi _=>a0.up i c hi
 clear hk1
 have w:NowU L tb cap (π1 1) G G startP (π1 2) ⟨[],[]⟩ 0 [] 0 [] :=
  ⟨⟨a0.up _ _ htb,a0.loc 1 (Nat.le_of_ble_eq_true rfl),⟨Nat.zero_le _,Nat.zero_le _,Nat.zero_le _⟩,Nat.le_trans a0.rw (a0.lo 1 (Nat.le_of_ble_eq_true rfl)),Nat.ne_of_lt (Nat.lt_of_lt_of_le htr (a0.lo 1 (Nat.le_of_ble_eq_true rfl)))⟩,a0.dom,
   ⟨a0.loc 2 (Nat.le_of_ble_eq_true rfl),rfl,rfl,fun e=>absurd rfl e,fun e=>absurd rfl e,fun c hc=>by simp at hc,fun c hc=>by simp at hc,fun i c f hc=>by simp at hc,Nat.le_trans a0.rw (a0.lo 2 (Nat.le_of_ble_eq_true rfl)),fun e=>absurd rfl e,fun e=>absurd rfl e⟩,fun _ _ h _=>h⟩
 have hrb0:G.m (π 0)=some ⟨⟨[.int .i64 0,.int .i64 0]⟩,27⟩:=a0.up _ _ hrb
 generalize π1 1=pb at *
 generalize π1 2=ub at *
 generalize π 0=rb at *
 with_reducible apply W.seq
 with_reducible apply W.block
 refine W.loopN (X:=Nat × UnitS × PS × Nat × List (List Value) × Nat × List (List Value)) (fun _=>[(2,.pointer none),(3,ptrC rb),(6,ptrC pb),(7,ptrC ub)]) (fun x B=>NowU L tb cap pb G B x.2.2.1 ub x.2.1 x.2.2.2.1 x.2.2.2.2.1 x.2.2.2.2.2.1 x.2.2.2.2.2.2∧(x.2.2.1.fk=0→x.2.1.globals.length≤60∧x.2.1.funcs.length≤60)∧outersS (tokN L) n x.1 x.2.1 x.2.2.1=some (u,t)) (fun x=>x.1)
  (fun B' a=>⟨(n,⟨[],[]⟩,startP,0,[],0,[]),?_,w.ends a,fun _=>⟨Nat.zero_le _,Nat.zero_le _⟩,h1⟩) ?_
 ·(repeat' (first|exact trivial|exact rfl|apply And.intro));done
 clear w h1
 rintro ⟨m,u1,st',gb,gs,fb,fs⟩ B π3 sB ⟨w,hle,h1⟩
 dsimp only at w hle h1 ⊢
 have hrb:=w.k _ _ hrb0 rfl
 cases m with
 | zero=>rw [outersS] at h1;cases h1
 | succ m =>
  rcases outers_iff h1 with ⟨hc,e1,e2⟩|⟨hf,hk,u2,v2,h3,h4⟩
  ·by_cases hf:st'.fk=0
   ·obtain ⟨rfl,rfl⟩:u=u1∧t=st':=⟨e1,e2⟩
    have hk0:(t.tok (tokN L)).kind=0:=by
     rcases hc with h|h
     ·exact absurd hf h
     ·exact h
    rw [if_neg (fun h=>h hf)] at h2
    subst h2
    have hrb2:B.m rb=some ⟨⟨[.int .i64 0,.int .i64 0]⟩,27⟩:=w.k _ _ hrb0 rfl
    have hrw:rwM≤rb:=hrw0
    repeat (first|refine Y2t ?_|refine Y31 ?_|refine Y1i ?_|((with_reducible apply (RS.storeB (cs':=[.int .i64 0,.int .i64 0])));(iterate 3 exact rfl);exact hrb2;exact w.d _ _ hrb2;exact hrw;exact Nat.le_of_ble_eq_true rfl;iterate 3 exact rfl)|refine Y11 ?_|refine Yb ?_|refine Y7 ?_|refine Yi ?_|refine Y0 ?_|refine Y2b ?_|refine Y1 ?_|refine Y3 ?_|refine Yf ?_)
    have hst:∀ i c,B.m i=some c→(B.set rb ⟨⟨[.int .i64 0,.int .i64 0]⟩,27⟩).m i=some c:=fun i c hi=>by
     show (if i=rb then _ else B.m i)=some c
     by_cases hir:i=rb
     ·subst hir;rw [if_pos rfl,← hi,hrb2]
     ·rw [if_neg hir,hi]
    refine endsK_ret _ (.cons (.tmp rfl) (.cons (.baseN (vs:=[.int .i64 0,.int .i64 0]) rfl (by show (if rb=rb then _ else _)=_;rw [if_pos rfl]) (Nat.le_of_ble_eq_true rfl) rfl) .nil)) fun B' a=>⟨⟨ub,gb,gs,fb,fs,rfl,w.u.kept fun i c hi _=>a.up i c (hst i c hi)⟩,fun i c hi hc=>a.up i c (hst i c (w.k i c (hkG i c hi hc) hc))⟩
   ·obtain ⟨rfl,rfl⟩:u=u1∧t=st':=⟨e1,e2⟩
    rw [if_pos hf] at h2
    subst h2
    have hrb2:B.m rb=some ⟨⟨[.int .i64 0,.int .i64 0]⟩,27⟩:=w.k _ _ hrb0 rfl
    have hrw:rwM≤rb:=hrw0
    repeat (first|((with_reducible apply (RS.callA (g0:=10)));(iterate 3 exact rfl);exact fun B' hB'=>ok_tf (w.p.absd w.d hB') (decide_eq_false hf))|((with_reducible apply (RS.loadNB (vs:=[.int .i64 t.fk,.int .i64 t.fa])));(iterate 3 exact rfl);exact w.p.par;exact w.d _ _ w.p.par;exact Nat.le_of_ble_eq_true rfl;exact rfl)|((with_reducible apply (RS.storeB (cs':=[.int .i64 t.fk,.int .i64 t.fa])));(iterate 3 exact rfl);exact hrb2;exact w.d _ _ hrb2;exact hrw;exact Nat.le_of_ble_eq_true rfl;iterate 3 exact rfl)|refine Y14 ?_|refine Yd ?_|refine Yn ?_|refine Y0 ?_|(with_reducible first|apply W.seq|apply W.exit|apply W.ret|apply thenK_n|apply thenK_e|apply thenK_r|apply roundN_e)|refine Y1 ?_|refine Y5 ?_|refine Y3 ?_|refine Yf ?_)
    refine endsK_ret _ (.cons (.tmp rfl) (.cons (.baseN (vs:=[.int .i64 t.fk,.int .i64 t.fa]) rfl (by show (if rb=rb then _ else _)=_;rw [if_pos rfl]) (Nat.le_of_ble_eq_true rfl) rfl) .nil)) fun B' a=>⟨rfl,fun i c hi hc=>a.up i c ?_⟩
    have hir:i≠rb:=fun e=>by have:=hbd i c hi;omega
    show (if i=rb then _ else B.m i)=some c
    rw [if_neg hir];exact w.k i c (hkG i c hi hc) hc
  ·have hgl:gs.length≤60:=by rw [w.u.gl];exact (hle hf).1
   have hfl:fs.length≤60:=by rw [w.u.fl];exact (hle hf).2
   repeat (first|refine Y2t ?_|refine Y31 ?_|refine Y1i ?_|((with_reducible apply (RS.callEx (g0:=12)));(iterate 3 exact rfl);intro B4 hB4;refine ⟨_,outer_ok hL h3 (⟨(w.ends hB4).p,(w.ends hB4).d,(w.ends hB4).u,fun _ _ h _=>h⟩:NowU L tb cap pb B4 B4 st' ub u1 gb gs fb fs) hgl hfl,?_⟩;rintro v H4 π4 ⟨rfl,gb',gs',fb',fs',w4⟩ sp4 hle4;have w:NowU L tb cap pb G H4 v2 ub u2 gb' gs' fb' fs':=⟨w4.p,w4.d,w4.u,(w.ends hB4).k.trans w4.k⟩)|refine Yq ?_|refine Yb ?_|refine Y6 ?_|refine Y0 ?_|refine Yx ?_|refine Y1 ?_|refine Y5 ?_)
   refine roundN_n rfl fun B' a=>⟨(m,u2,v2,gb',gs',fb',fs'),?_,⟨w.ends a,fun hc=>outer_len h3 (hle hf) hc,h4⟩,Nat.lt_succ_self m⟩
   (repeat' (first|exact trivial|exact rfl|apply And.intro));done
end
end Go.Proofs.YtbmmchaaiakanaaDoor
