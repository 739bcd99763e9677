/-
  What the functions that the law reaches compute,told by plain data;it holds of programs that pass the check of right form and are light.
-/
import Derived.Test.YtgpigfcagppohaaGreatDoorR27
import Derived.Test.YtgpigfcagppohaaGreatDoorS2
set_option linter.unusedVariables false
set_option linter.unusedSimpArgs false
namespace Go.Proofs.YtgpigfcagppohaaGreatDoor
open Go.AH
attribute [local irreducible] W RS WR
def funcDC (d:DeclS) (A:Option Addr) (n c:Nat) (E:Value):List Value:=declC d none 0++[.slice A n c,E]
def FunQ (L:List TokS) (tb cap pb:Nat) (h:Hp) (f:FuncDS) (t:PS) (v:Value) (h':Hp):Prop:=∃ A c b d,(d.ty=f.ret∧d.name=f.name∧d.pos=f.pos∧d.ty.dims=[]∧(f.params=[]→A=none∧c=0))∧v=.agg ⟨funcDC d A f.params.length c (ptrC b)⟩∧StmtAt h' h.n b f.body∧ParAt L tb cap pb h' t∧OffP pb h h'
section
variable {L:List TokS} {tb cap pb:Nat} {h:Hp} {st:PS}
structure NowF (L:List TokS) (tb cap pb:Nat) (h B:Hp) (st:PS) (fb:Nat) (c:Blk) (rb:Nat) (c2:Blk):Prop where
 w:NowS L tb cap pb h B st fb c
 r:B.m rb=some c2
 rlo:h.n≤rb
 rp:pb < rb
 rf:rb≠fb
variable {B B1 H1:Hp} {fb rb:Nat} {c c2:Blk} {st':PS}
theorem NowF.step {P:Program} {π:Nat→Nat} {k:Nat} {l:List (Nat × Option Blk)} (w:NowF L tb cap pb h B st fb c rb c2) (a:Absb (P:=P) ⟨B,π,k,l⟩ B1) (p':ParAt L tb cap pb H1 st') (d:∀ i c,H1.m i=some c→i < H1.n) (o':OffP pb B1 H1):NowF L tb cap pb h H1 st' fb c rb c2 :=
 ⟨w.w.step a p' d o',o'.keep (a.up _ _ w.r) (a.dom _ _ (a.up _ _ w.r)) (Nat.ne_of_gt w.rp),w.rlo,w.rp,w.rf⟩
theorem NowF.write (w:NowF L tb cap pb h B st fb c rb c2) (c':Blk):NowF L tb cap pb h (B.set fb c') st fb c' rb c2 :=
 ⟨w.w.write c',(by show (if rb=fb then _ else _)=_;rw [if_neg w.rf];exact w.r),w.rlo,w.rp,w.rf⟩
theorem NowF.step0 (w:NowF L tb cap pb h B st fb c rb c2) (p':ParAt L tb cap pb H1 st') (d:∀ i c,H1.m i=some c→i < H1.n) (o':OffP pb B H1):NowF L tb cap pb h H1 st' fb c rb c2 :=
 ⟨⟨⟨p',d,w.w.q.o.trans o'⟩,o'.keep w.w.s (w.w.q.d _ _ w.w.s) (Nat.ne_of_gt w.w.ne),w.w.lo,w.w.ne,w.w.tn⟩,o'.keep w.r (w.w.q.d _ _ w.r) (Nat.ne_of_gt w.rp),w.rlo,w.rp,w.rf⟩
theorem NowF.ends {P:Program} {π:Nat→Nat} {k:Nat} {l:List (Nat × Option Blk)} (w:NowF L tb cap pb h B st fb c rb c2) (a:Absb (P:=P) ⟨B,π,k,l⟩ B1):NowF L tb cap pb h B1 st fb c rb c2 :=
 w.step a (w.w.q.p.absd w.w.q.d a) a.dom (OffP.refl pb _)
theorem NowF.gen {P:Program} {H B7 Bx:Hp} {n k k':Nat} {π:Nat→Nat} {l l':List (Nat × Option Blk)} {c0:Blk} (w:NowF L tb cap pb h H st fb c0 rb c2) (hd:(⟨cutH H n,π,k,l⟩:SH).den=H) (a:Absb (P:=P) ⟨Bx,π,k',l'⟩ B7) (hn:Bx.n=n) (hk:k≤k') (hl:∀ j,j < k→lookB l' j=lookB l j) (S:Nat→Prop) (hS:∀ i,i < n→¬ S i→Bx.m i=H.m i)
 (hSh:∀ i,S i→h.n≤i) (hSr:¬ S rb) (htb:tb < h.n) (hpb:pb < h.n) (hhn:h.n≤n) (hf:Bx.m fb=some c):NowF L tb cap pb h B7 st fb c rb c2:=by
 have up:=gen_up hd a hn hk hl S hS
 have no:∀ i,i < h.n→¬ S i:=fun i hi hs=>absurd (hSh i hs) (Nat.not_le.2 hi)
 refine ⟨⟨⟨⟨up _ _ (no _ htb) w.w.q.p.tok,up _ _ (no _ hpb) w.w.q.p.par,w.w.q.p.fits,w.w.q.p.rw,w.w.q.p.ne⟩,a.dom,Nat.le_trans hhn (by rw [← hn];exact a.le),fun i hi hne=>?_⟩,a.up _ _ hf,w.w.lo,w.w.ne,w.w.tn⟩,up _ _ hSr w.r,w.rlo,w.rp,w.rf⟩
 have hin:i < n:=Nat.lt_of_lt_of_le hi hhn
 rw [a.old i (by rw [hn];exact hin),hS i hin (no i hi)]
 exact w.w.q.o.2 i hi hne
end
def dcs (l:List DeclS):List Value:=l.flatMap fun d=>declC d none 0
theorem dcs_len (l:List DeclS):(dcs l).length=l.length * 11:=by
 unfold dcs
 induction l with
 | nil=>rfl
 | cons d l ih=>rw [List.flatMap_cons,List.length_append,ih,List.length_cons];show 11+_=_;omega
def rowA (kb:Nat) (l:List DeclS):Option Addr:=if l=[] then none else some ⟨kb,0,none⟩
def rowK (l:List DeclS):Nat:=if l=[] then 0 else capOf 11
def RowF (h B:Hp) (l:List DeclS) (kb fb rb:Nat):Prop:=l≠[]→B.m kb=some ⟨⟨dcs l⟩,116⟩∧h.n≤kb∧kb≠fb∧kb≠rb
theorem RowF.abs {P:Program} {h B B1:Hp} {π:Nat→Nat} {k:Nat} {l0:List (Nat × Option Blk)} {l:List DeclS} {kb fb rb:Nat} (r:RowF h B l kb fb rb) (a:Absb (P:=P) ⟨B,π,k,l0⟩ B1):RowF h B1 l kb fb rb:=fun hl=>⟨a.up _ _ (r hl).1,(r hl).2⟩
theorem RowF.off {h B B1:Hp} {pb:Nat} {l:List DeclS} {kb fb rb:Nat} (r:RowF h B l kb fb rb) (o:OffP pb B B1) (hd:∀ i c,B.m i=some c→i < B.n) (hpb:pb < h.n):RowF h B1 l kb fb rb:=fun hl=>⟨o.keep (r hl).1 (hd _ _ (r hl).1) (Nat.ne_of_gt (Nat.lt_of_lt_of_le hpb (r hl).2.1)),(r hl).2⟩
theorem function_iff {T:Nat→TokS} {n:Nat} {d:DeclS} {st t:PS} {f:FuncDS} (hs:functionS T n d st=some (f,t)):∃ u1 b2 u2 ps u3 s,st.want T (b1 40)=some u1∧u1.take T (b1 41)=some (b2,u2)∧parsS T n u2 b2=some (ps,u3)∧parseS T n .stmt (if u3.is T (b1 123)=true then u3 else u3.fail T 11)=some (s,t)∧f=⟨d.ty,d.name,d.pos,ps,s⟩:=by
 unfold functionS at hs
 obtain ⟨u1,h1,hs1⟩:=bind_some' hs
 obtain ⟨⟨b2,u2⟩,h2,hs2⟩:=bind_some' hs1
 obtain ⟨⟨ps,u3⟩,h3,hs3⟩:=bind_some' hs2
 obtain ⟨⟨s,u4⟩,h4,hs4⟩:=bind_some' hs3
 simp only [Option.some.injEq,Prod.mk.injEq] at hs4
 obtain ⟨h5,rfl⟩:=hs4
 exact ⟨u1,b2,u2,ps,u3,s,h1,h2,h3,h4,h5.symm⟩
section
variable {L:List TokS} {tb cap pb:Nat} {h:Hp} {st:PS}
theorem fail_fk {T:Nat→TokS} {st:PS} {k:Nat} (hk:k≠0):(st.fail T k).fk≠0:=by
 unfold PS.fail
 split
 ·exact hk
 ·assumption
theorem want_fk {T:Nat→TokS} {st t:PS} {s:ByteArray} (h:st.want T s=some t) (hf:t.fk=0):st.fk=0:=by
 unfold PS.want at h
 obtain ⟨⟨b,u⟩,h1,h2⟩:=Option.map_eq_some_iff.1 h
 have h3:=take_fk h1
 cases b with
 | true =>
  simp only [if_true] at h2
  subst h2;rw [← h3];exact hf
 | false =>
  simp only [Bool.false_eq_true,if_false] at h2
  subst h2
  exact absurd hf (fail_fk (by decide))
theorem dcs_app (l:List DeclS) (d:DeclS):dcs (l++[d])=dcs l++declC d none 0:=by
 unfold dcs
 rw [List.flatMap_append]
 simp
theorem params_iff {T:Nat→TokS} {m n:Nat} {st t:PS} {l r:List DeclS} (h:paramsS T m (n+1) st l=some (r,t)):(st.fk≠0∧r=l∧t=st)∨(st.fk=0∧typedT (st.tok T)=false∧r=l∧t=st.fail T 11) ∨
 (st.fk=0∧typedT (st.tok T)=true∧∃ s u1 d u2 b u4,specS T st=some (s,u1)∧restS T m s u1=some (d,u2)∧d.ty.dims=[]∧(if 6 < l.length+1 then u2.fail T 4 else u2).take T (b1 41)=some (b,u4)∧((b=true∧r=l++[d]∧t=u4)∨(b=false∧∃ u5,u4.want T (b1 44)=some u5∧paramsS T m n u5 (l++[d])=some (r,t)))):=by
 rw [paramsS] at h
 by_cases hf:st.fk=0
 ·rw [if_neg (fun hc=>hc hf)] at h
  cases ht:typedT (st.tok T) with
  | false =>
   rw [ht,if_pos rfl] at h
   simp only [Option.some.injEq,Prod.mk.injEq] at h
   exact .inr (.inl ⟨hf,rfl,h.1.symm,h.2.symm⟩)
  | true =>
   rw [ht,if_neg (by decide)] at h
   obtain ⟨⟨s,u1⟩,h1,h2⟩:=bind_some' h
   obtain ⟨⟨d,u2⟩,h3,h4⟩:=bind_some' h2
   dsimp only at h4
   split at h4
   ·cases h4
   rename_i hdd
   obtain ⟨⟨b,u4⟩,h5,h6⟩:=bind_some' h4
   refine .inr (.inr ⟨hf,rfl,s,u1,d,u2,b,u4,h1,h3,Classical.not_not.1 hdd,h5,?_⟩)
   cases b with
   | true=>simp only [if_true,Option.some.injEq,Prod.mk.injEq] at h6;exact .inl ⟨rfl,h6.1.symm,h6.2.symm⟩
   | false =>
    simp only [Bool.false_eq_true,if_false] at h6
    obtain ⟨u5,h7,h8⟩:=bind_some' h6
    exact .inr ⟨rfl,u5,h7,h8⟩
 ·rw [if_pos hf] at h
  simp only [Option.some.injEq,Prod.mk.injEq] at h
  exact .inl ⟨hf,h.1.symm,h.2.symm⟩
set_option maxHeartbeats 4000000 in
theorem function_ok (hL:ToksOK L) {n:Nat} {d:DeclS} {f:FuncDS} {t:PS} (hd:d.ty.dims=[]) (hs:functionS (tokN L) n d st=some (f,t)) (p:ParAt L tb cap pb h st):EX Tryz.prog 64 [ptrC pb,.agg ⟨declC d none 0⟩] h (FunQ L tb cap pb h f t):=by
 obtain ⟨u1,b2,u2,ps,u3,s1,h1,h2,h3,h4,rfl⟩:=function_iff hs
 clear hs
 refine EX.intro (fn:=Tryz.f64) (c:=(Tryz.f64.body.getD .skip)) Tryz.func64 (by kernel_rfl) Tryz.ntmps64 (by kernel_rfl) fun π s0=>?_
 conv=>arg 2;whnf
 have hpb:=s0.dom _ _ p.par
 have q:Now L tb cap pb h h st:=⟨p,s0.dom,OffP.refl pb h⟩
 ((with_reducible apply W.seq);repeat (first|refine Y9 ?_|((with_reducible apply RS.box);iterate 3 exact rfl)|refine Y0 ?_|refine Y1 ?_|refine Ym ?_))
 ((with_reducible apply W.seq);repeat (first|refine Y65 ?_|refine Yh ?_|refine Yg ?_|refine Y2 ?_|refine Y9 ?_|refine Ya ?_|refine Y0 ?_|refine Y1 ?_|refine Ym ?_))
 refine W.absorbX fun G π0 a0=>?_
 have w:NowF L tb cap pb h G st (π 2) ⟨⟨funcDC d none 0 0 (.pointer none)⟩,130⟩ (π 1) ⟨⟨funcDC ⟨zeroType,⟨#[]⟩,0⟩ none 0 0 (.pointer none)⟩,130⟩ :=
  ⟨⟨⟨(q.ends a0).1,a0.dom,(q.ends a0).2⟩,a0.loc 2 (Nat.le_of_ble_eq_true rfl),a0.lo 2 (Nat.le_of_ble_eq_true rfl),Nat.lt_of_lt_of_le hpb (a0.lo 2 (Nat.le_of_ble_eq_true rfl)),fun e=>by have h1:h.n≤π 2:=a0.lo 2 (Nat.le_of_ble_eq_true rfl);have h2:=s0.dom _ _ p.tok;omega⟩,a0.loc 1 (Nat.le_of_ble_eq_true rfl),a0.lo 1 (Nat.le_of_ble_eq_true rfl),Nat.lt_of_lt_of_le hpb (a0.lo 1 (Nat.le_of_ble_eq_true rfl)),fun e=>absurd (a0.inj 1 2 (Nat.le_of_ble_eq_true rfl) (Nat.le_of_ble_eq_true rfl) e) (by decide)⟩
 generalize π 2=fb at *
 generalize π 1=rb at *
 have hfw:rwM≤fb:=Nat.le_trans a0.rw w.w.lo
 have hrw:rwM≤rb:=Nat.le_trans a0.rw w.rlo
 have htr:tb≠rb:=fun e=>by have h1:=w.rlo;have h2:=s0.dom _ _ p.tok;omega
 ((with_reducible apply W.seq);repeat (first|((with_reducible apply (RS.callEx (g0:=68)));(iterate 3 exact rfl);intro B1 hB1;refine ⟨_,want_ex hL (w.w.q.p.absd w.w.q.d hB1) _ h1,?_⟩;rintro v H1 π1 ⟨rfl,p',o'⟩ sp' hle1;have w:=w.step hB1 p' sp'.dom o')|refine Y11 ?_|refine Y0 ?_|refine Y1 ?_|refine Ym ?_))
 with_reducible apply W.seq
 with_reducible apply W.block
 refine W.joinNB (X:=Option Addr × Nat) (fun _=>[(0,ptrC pb),(4,ptrC rb),(5,ptrC fb)]) (fun x B=>NowF L tb cap pb h B u3 fb ⟨⟨funcDC d x.1 ps.length x.2 (.pointer none)⟩,130⟩ rb ⟨⟨funcDC ⟨zeroType,⟨#[]⟩,0⟩ none 0 0 (.pointer none)⟩,130⟩∧(ps=[]→x.1=none∧x.2=0)) ?_ ?_
 ·cases b2 with
  | true =>
   unfold parsS at h3
   rw [if_pos rfl] at h3
   simp only [Option.some.injEq,Prod.mk.injEq] at h3
   obtain ⟨rfl,rfl⟩:=h3
   repeat (first|((with_reducible apply (RS.callEx (g0:=66)));(iterate 3 exact rfl);intro B2 hB2;refine ⟨_,take_ex hL (w.w.q.p.absd w.w.q.d hB2) _ h2,?_⟩;rintro v H2 π2 ⟨rfl,p2,o2⟩ sp2 hle2;have w:=w.step hB2 p2 sp2.dom o2)|refine Y7 ?_|refine Y0 ?_|refine Y3v ?_|refine Y1 ?_|refine Y5 ?_)
   refine joinN_n rfl fun B' a=>⟨(none,0),?_,w.ends a,fun _=>⟨rfl,rfl⟩⟩
   (repeat' (first|exact trivial|exact rfl|apply And.intro));done
  | false =>
   unfold parsS at h3
   rw [if_neg (by decide)] at h3
   split at h3
   ·cases h3
   rename_i hv
   have his:u2.is (tokN L) bVoid=false:=by simpa using hv
   ((with_reducible apply W.seq);repeat (first|((with_reducible apply (RS.callEx (g0:=66)));(iterate 3 exact rfl);intro B2 hB2;refine ⟨_,take_ex hL (w.w.q.p.absd w.w.q.d hB2) _ h2,?_⟩;rintro v H2 π2 ⟨rfl,p2,o2⟩ sp2 hle2;have w:=w.step hB2 p2 sp2.dom o2)|refine Y7 ?_|refine Y0 ?_|refine Y1 ?_|refine Y3 ?_|refine Ym ?_))
   ((with_reducible apply W.seq);repeat (first|refine Y3y ?_|refine Y7 ?_|refine Yc ?_|refine Yk ?_|refine Y0 ?_|refine Y1 ?_|refine Y24 ?_|refine Y3 ?_))
   have htb:tb < h.n:=s0.dom _ _ p.tok
   refine W.loopN (X:=Nat × List DeclS × PS × Nat) (fun _=>[(0,ptrC pb),(4,ptrC rb),(5,ptrC fb)]) (fun x B=>NowF L tb cap pb h B x.2.2.1 fb ⟨⟨funcDC d (rowA x.2.2.2 x.2.1) x.2.1.length (rowK x.2.1) (.pointer none)⟩,130⟩ rb ⟨⟨funcDC ⟨zeroType,⟨#[]⟩,0⟩ none 0 0 (.pointer none)⟩,130⟩∧RowF h B x.2.1 x.2.2.2 fb rb∧(x.2.2.1.fk=0→x.2.1.length≤6)∧paramsS (tokN L) n x.1 x.2.2.1 x.2.1=some (ps,u3)) (fun x=>x.1)
    (fun B' a=>⟨(n,[],u2,0),?_,w.ends a,fun hc=>absurd rfl hc,fun _=>Nat.zero_le _,h3⟩) ?_
   ·(repeat' (first|exact trivial|exact rfl|apply And.intro));done
   clear h3 w
   rintro ⟨m,l,st',kb⟩ B π3 sB ⟨w,hrow,hl6,h3⟩
   dsimp only at w hrow hl6 h3 ⊢
   cases m with
   | zero=>rw [paramsS] at h3;cases h3
   | succ m =>
    rcases params_iff h3 with ⟨hf,rfl,rfl⟩|⟨hf,ht,rfl,rfl⟩|⟨hf,ht,s,v1,d',v2,b,v4,e1,e2,ed,e3,e4⟩
    ·repeat (first|((with_reducible apply (RS.callA (g0:=30)));(iterate 3 exact rfl);exact fun B' hB'=>ok_tf (w.w.q.p.absd w.w.q.d hB') (decide_eq_false hf))|refine Y11 ?_|refine Y0 ?_|refine Y6g ?_|refine Y1 ?_|refine Y3 ?_|refine Yn ?_)
     refine joinN_n rfl fun B' a=>⟨(rowA kb ps,rowK ps),?_,w.ends a,fun e=>⟨if_pos e,if_pos e⟩⟩
     (repeat' (first|exact trivial|exact rfl|apply And.intro));done
    ·repeat (first|((with_reducible apply (RS.callEx (g0:=59)));(iterate 3 exact rfl);intro B2 hB2;refine ⟨_,fail_ex hL (w.w.q.p.absd w.w.q.d hB2) 11,?_⟩;rintro v H2 π2 ⟨rfl,p',o'⟩ sp2 hle2;have w:=w.step hB2 p' sp2.dom o')|refine Y5a ?_|refine Y5n ?_|refine Y25 ?_|refine Y0 ?_|(with_reducible first|apply W.seq|apply W.block|apply W.exit|apply W.skip|apply thenK_n|apply thenK_e|apply blockK_n|apply roundN_e)|refine Y1 ?_|refine Y5 ?_|refine Yn ?_|refine Y42 ?_)
     refine joinN_n rfl fun B' a=>⟨(rowA kb ps,rowK ps),?_,w.ends a,fun e=>⟨if_pos e,if_pos e⟩⟩
     (repeat' (first|exact trivial|exact rfl|apply And.intro));done
    ·have hlen:=hl6 hf
     have hnB:h.n≤B.n:=w.w.q.o.1
     have hfn:=sB.dom _ _ w.w.s
     have hrwh:=a0.rw
     have hrn:=sB.dom _ _ w.r
     ((with_reducible apply W.seq);repeat (fail))
     ((with_reducible apply W.seq);repeat (first|refine Y5a ?_|refine Y11 ?_|refine Y0 ?_|refine Y1 ?_|refine Y6o ?_|refine Y5 ?_))
     ((with_reducible apply W.seq);repeat (fail))
     ((with_reducible apply W.seq);repeat (first|refine Y5n ?_|refine Y25 ?_|refine Y0 ?_|refine Y1 ?_|refine Y1h ?_|refine Y3 ?_))
     with_reducible apply W.seq
     refine W.joinNT (X:=Nat) (fun _=>[(0,ptrC pb),(4,ptrC rb),(5,ptrC fb)]) (fun kb' B=>NowF L tb cap pb h B v2 fb ⟨⟨funcDC d (rowA kb' (l++[d'])) (l++[d']).length (rowK (l++[d'])) (.pointer none)⟩,130⟩ rb ⟨⟨funcDC ⟨zeroType,⟨#[]⟩,0⟩ none 0 0 (.pointer none)⟩,130⟩∧RowF h B (l++[d']) kb' fb rb) ?_ ?_
     ·by_cases hle:l=[]
      ·subst hle
       replace w:NowF L tb cap pb h B st' fb ⟨⟨funcDC d none 0 0 (.pointer none)⟩,130⟩ rb ⟨⟨funcDC ⟨zeroType,⟨#[]⟩,0⟩ none 0 0 (.pointer none)⟩,130⟩:=w
       repeat (first|refine Y6i ?_|((with_reducible apply (RS.callYE (g0:=62) (fun id=>id == pb)));(iterate 3 exact rfl);intro B4 he4 hB4;refine ⟨_,spec_ex hL (w.w.q.p.absd w.w.q.d hB4) e1,(fun v H' hq i hi hei=>hq.2.2.2 i (Nat.lt_of_lt_of_le hi hB4.le) (by simpa using hei)),?_⟩;rintro v H5 k5 l5 ⟨rfl,p5,o5⟩ s5 hle5 hm5 hden5 hwf5 hk5;have w:=w.step hB4 p5 s5.dom o5)|((with_reducible apply (RS.callYE (g0:=63) (fun id=>id == pb)));(iterate 3 exact rfl);intro B6 he6 hB6;obtain rfl:=he6.symm.trans hden5;refine ⟨_,rest_ex0 hL w.w.q.p e2 ed,(fun v H' hq i hi hei=>hq.2.2.2 i (Nat.lt_of_lt_of_le hi hB6.le) (by simpa using hei)),?_⟩;rintro v H7 k7 l7 ⟨rfl,p7,o7⟩ s7 hle7 hm7 hden7 hwf7 hk7;have w:=w.step0 p7 s7.dom o7)|refine Yi ?_|((with_reducible apply (RS.appendNil (i:=k7)));(iterate 6 exact rfl);exact blt_iff.2 (Nat.lt_succ_self k7);exact ((look_cons _ _ _).trans (if_pos rfl));exact Nat.le_of_ble_eq_true rfl;exact Nat.lt_succ_self 0;exact Nat.le_of_ble_eq_true rfl;exact Nat.le_of_ble_eq_true rfl)|((with_reducible apply (RS.storeB (cs':=funcDC d (some ⟨π3 (k7+1),0,none⟩) 1 (capOf 11) (.pointer none))));(iterate 3 exact rfl);exact ((if_pos hfn).trans w.w.s);exact hfn;exact hfw;exact Nat.le_of_ble_eq_true rfl;iterate 3 exact rfl)|((with_reducible apply (RS.nilPC mixed [(1,2),(0,2),(2,3),(1,3),(0,3),(2,4),(1,4),(0,4),(1,5),(0,5),(1,6),(0,6)]));kernel_rfl;(repeat (refine ⟨fun x y hx hy=>(by obtain rfl:=Option.some.inj hx;obtain rfl:=Option.some.inj hy;exact pairR_free rfl rfl rfl rfl rfl rfl rfl (Nat.zero_le _) rfl),?_⟩));exact trivial;exact sideOK_all (j:=pb) (b:=fb) (Nat.ne_of_lt w.w.ne) (by repeat' (first|exact trivial|exact .inl rfl|exact .inr rfl|apply And.intro));exact rfl)|refine Y1r ?_|refine Y1 ?_)
       have hlk:∀ (x y:Option Blk) (j:Nat),j < k7→lookB ((k7+1,x)::(k7,y)::l7) j=lookB l7 j:=fun x y j hj=>by rw [look_cons,look_cons,if_neg (Nat.ne_of_gt (Nat.lt_succ_of_lt hj)),if_neg (Nat.ne_of_gt hj)]
       refine joinN_n rfl fun B' a=>⟨π3 (k7+1),?_,w.gen hden7 a rfl (Nat.le_add_right k7 2) (hlk _ _) (fun i=>i=fb) (fun i hi hne=>?_) (fun i e=>by rw [e];exact w.w.lo) w.rf htb hpb hnB (if_pos rfl),fun _=>⟨?_,?_,?_,?_⟩⟩
       ·(repeat' (first|exact trivial|exact rfl|apply And.intro));done
       ·show (if i=fb then _ else if i < B.n then H7.m i else none)=_
        rw [if_neg hne];exact if_pos hi
       ·exact (a.loc (k7+1) (Nat.lt_succ_self _)).trans ((look_cons _ _ _).trans (if_pos rfl))
       ·exact Nat.le_trans hnB (a.lo (k7+1) (Nat.lt_succ_self _))
       ·exact Nat.ne_of_gt (Nat.lt_of_lt_of_le hfn (a.lo (k7+1) (Nat.lt_succ_self _)))
       ·exact Nat.ne_of_gt (Nat.lt_of_lt_of_le hrn (a.lo (k7+1) (Nat.lt_succ_self _)))
      ·have hA:rowA kb l=some ⟨kb,0,none⟩:=if_neg hle
       have hK:rowK l=capOf 11:=if_neg hle
       rw [hA,hK] at w
       obtain ⟨hrow,hkh,hkf,hkr⟩:=hrow hle
       have hkn:=sB.dom _ _ hrow
       have hkw:rwM≤kb:=Nat.le_trans hrwh hkh
       have hkp:kb≠pb:=Nat.ne_of_gt (Nat.lt_of_lt_of_le hpb hkh)
       repeat (first|refine Y6i ?_|((with_reducible apply (RS.callYE (g0:=62) (fun id=>id == pb)));(iterate 3 exact rfl);intro B4 he4 hB4;refine ⟨_,spec_ex hL (w.w.q.p.absd w.w.q.d hB4) e1,(fun v H' hq i hi hei=>hq.2.2.2 i (Nat.lt_of_lt_of_le hi hB4.le) (by simpa using hei)),?_⟩;rintro v H5 k5 l5 ⟨rfl,p5,o5⟩ s5 hle5 hm5 hden5 hwf5 hk5;have hrow:=o5.keep (hB4.up _ _ hrow) (hB4.dom _ _ (hB4.up _ _ hrow)) hkp;have w:=w.step hB4 p5 s5.dom o5)|((with_reducible apply (RS.callYE (g0:=63) (fun id=>id == pb)));(iterate 3 exact rfl);intro B6 he6 hB6;obtain rfl:=he6.symm.trans hden5;refine ⟨_,rest_ex0 hL w.w.q.p e2 ed,(fun v H' hq i hi hei=>hq.2.2.2 i (Nat.lt_of_lt_of_le hi hB6.le) (by simpa using hei)),?_⟩;rintro v H7 k7 l7 ⟨rfl,p7,o7⟩ s7 hle7 hm7 hden7 hwf7 hk7;have hrow:=o7.keep hrow (w.w.q.d _ _ hrow) hkp;have w:=w.step0 p7 s7.dom o7)|refine Yi ?_|((with_reducible apply (RS.growXL (j:=kb) (i:=k7)));(iterate 6 exact rfl);exact ((if_pos hkn).trans hrow);exact hkn;exact hkw;exact dcs_len l;exact blt_iff.2 (Nat.lt_succ_self k7);exact ((look_cons _ _ _).trans (if_pos rfl));exact Nat.le_of_ble_eq_true rfl;exact rfl;exact Nat.le_trans (Nat.mul_le_mul_right _ (show l.length+1≤7 from by omega)) (Nat.le_of_ble_eq_true rfl);exact Nat.le_trans (show l.length+1≤7 from by omega) (Nat.le_of_ble_eq_true rfl))|((with_reducible apply (RS.storeB (cs':=funcDC d (some ⟨π3 (k7+1),0,none⟩) (l.length+1) (capOf 11) (.pointer none))));(iterate 3 exact rfl);exact ((if_neg (Ne.symm hkf)).trans ((if_pos hfn).trans w.w.s));exact hfn;exact hfw;exact Nat.le_of_ble_eq_true rfl;iterate 3 exact rfl)|((with_reducible apply (RS.nilPC mixed [(1,2),(0,2),(2,3),(1,3),(0,3),(2,4),(1,4),(0,4),(1,5),(0,5),(1,6),(0,6)]));kernel_rfl;(repeat (refine ⟨fun x y hx hy=>(by obtain rfl:=Option.some.inj hx;obtain rfl:=Option.some.inj hy;exact pairR_free rfl rfl rfl rfl rfl rfl rfl (Nat.zero_le _) rfl),?_⟩));exact trivial;exact sideTwo_all (i:=pb) (j:=kb) (b:=fb) (Nat.ne_of_lt w.w.ne) hkf (by repeat' (first|exact trivial|exact .inl rfl|exact .inr rfl|exact .inr (.inl rfl)|exact .inr (.inr rfl)|apply And.intro));exact rfl)|refine Y1r ?_|refine Y1 ?_)
       have hlk:∀ (x y:Option Blk) (j:Nat),j < k7→lookB ((k7+1,x)::(k7,y)::l7) j=lookB l7 j:=fun x y j hj=>by rw [look_cons,look_cons,if_neg (Nat.ne_of_gt (Nat.lt_succ_of_lt hj)),if_neg (Nat.ne_of_gt hj)]
       refine joinN_n rfl fun B' a=>⟨π3 (k7+1),?_,?_,fun _=>⟨?_,?_,?_,?_⟩⟩
       ·(repeat' (first|exact trivial|exact rfl|apply And.intro));done
       ·have hw:=w.gen (c:=⟨⟨funcDC d (some ⟨π3 (k7+1),0,none⟩) (l.length+1) (capOf 11) (.pointer none)⟩,130⟩) hden7 a rfl (Nat.le_add_right k7 2) (hlk _ _) (fun i=>i=fb∨i=kb) (fun i hi hne=>?_) (fun i e=>by rcases e with e|e;rw [e];exact w.w.lo;rw [e];exact hkh) (fun e=>by rcases e with e|e;exact w.rf e;exact hkr e.symm) htb hpb hnB (if_pos rfl)
        ·have hA':rowA (π3 (k7+1)) (l++[d'])=some ⟨π3 (k7+1),0,none⟩:=if_neg (by simp)
         have hK':rowK (l++[d'])=capOf 11:=if_neg (by simp)
         have hL':(l++[d']).length=l.length+1:=by simp
         rw [hA',hK',hL']
         exact hw
        ·show (if i=fb then _ else if i=kb then none else if i < B.n then H7.m i else none)=_
         rw [if_neg (fun e=>hne (.inl e)),if_neg (fun e=>hne (.inr e))];exact if_pos hi
       ·rw [dcs_app]
        exact (a.loc (k7+1) (Nat.lt_succ_self _)).trans ((look_cons _ _ _).trans (if_pos rfl))
       ·exact Nat.le_trans hnB (a.lo (k7+1) (Nat.lt_succ_self _))
       ·exact Nat.ne_of_gt (Nat.lt_of_lt_of_le hfn (a.lo (k7+1) (Nat.lt_succ_self _)))
       ·exact Nat.ne_of_gt (Nat.lt_of_lt_of_le hrn (a.lo (k7+1) (Nat.lt_succ_self _)))
     ·clear w hrow
      rintro kb' B9 π9 s9 ⟨w,hrow⟩
      have hl1:(l++[d']).length=l.length+1:=by simp
      rw [← hl1] at e3
      dsimp only at w hrow ⊢
      by_cases h6:6 < (l++[d']).length
      ·rw [if_pos h6] at e3
       rcases e4 with ⟨rfl,rfl,rfl⟩|⟨rfl,u5,e5,e6⟩
       ·repeat (first|refine Y3l ?_|((with_reducible apply (RS.callEx (g0:=59)));(iterate 3 exact rfl);intro B2 hB2;have hrow:=hrow.abs hB2;refine ⟨_,fail_ex hL (w.w.q.p.absd w.w.q.d hB2) 4,?_⟩;rintro v H2 π2 ⟨rfl,p',o'⟩ sp2 hle2;have hrow:=hrow.off o' hB2.dom hpb;have w:=w.step hB2 p' sp2.dom o')|((with_reducible apply (RS.callEx (g0:=66)));(iterate 3 exact rfl);intro B3 hB3;have hrow:=hrow.abs hB3;refine ⟨_,take_ex hL (w.w.q.p.absd w.w.q.d hB3) _ e3,?_⟩;rintro v H3 π3 ⟨rfl,p3,o3⟩ sp3 hle3;have hrow:=hrow.off o3 hB3.dom hpb;have w:=w.step hB3 p3 sp3.dom o3)|refine Y33 ?_|refine Y6 ?_|refine Y0 ?_|refine Y6g ?_|refine Y1 ?_|refine Y5 ?_|refine Yn ?_|refine Y42 ?_)
        refine joinN_n rfl fun B' a=>⟨(_,_),?_,w.ends a,fun e=>absurd e (by simp)⟩
        (repeat' (first|exact trivial|exact rfl|apply And.intro));done
       ·repeat (first|refine Y3l ?_|((with_reducible apply (RS.callEx (g0:=59)));(iterate 3 exact rfl);intro B2 hB2;have hrow:=hrow.abs hB2;refine ⟨_,fail_ex hL (w.w.q.p.absd w.w.q.d hB2) 4,?_⟩;rintro v H2 π2 ⟨rfl,p',o'⟩ sp2 hle2;have hrow:=hrow.off o' hB2.dom hpb;have w:=w.step hB2 p' sp2.dom o')|((with_reducible apply (RS.callEx (g0:=66)));(iterate 3 exact rfl);intro B3 hB3;have hrow:=hrow.abs hB3;refine ⟨_,take_ex hL (w.w.q.p.absd w.w.q.d hB3) _ e3,?_⟩;rintro v H3 π3 ⟨rfl,p3,o3⟩ sp3 hle3;have hrow:=hrow.off o3 hB3.dom hpb;have w:=w.step hB3 p3 sp3.dom o3)|((with_reducible apply (RS.callEx (g0:=68)));(iterate 3 exact rfl);intro B4 hB4;have hrow:=hrow.abs hB4;refine ⟨_,want_ex hL (w.w.q.p.absd w.w.q.d hB4) _ e5,?_⟩;rintro v H4 π4 ⟨rfl,p4,o4⟩ sp4 hle4;have hrow:=hrow.off o4 hB4.dom hpb;have w:=w.step hB4 p4 sp4.dom o4)|refine Y33 ?_|refine Y6 ?_|refine Y0 ?_|refine Y3v ?_|refine Y1 ?_|refine Y5 ?_|refine Y3 ?_)
        refine roundN_n rfl fun B' a=>⟨(m,l++[d'],u5,kb'),?_,⟨w.ends a,hrow.abs a,fun hc=>absurd ((take_fk e3).symm.trans (want_fk e5 hc)) (fail_fk (by decide)),e6⟩,Nat.lt_succ_self m⟩
        (repeat' (first|exact trivial|exact rfl|apply And.intro));done
      ·rw [if_neg h6] at e3
       rcases e4 with ⟨rfl,rfl,rfl⟩|⟨rfl,u5,e5,e6⟩
       ·repeat (first|refine Y3l ?_|((with_reducible apply (RS.callEx (g0:=66)));(iterate 3 exact rfl);intro B3 hB3;have hrow:=hrow.abs hB3;refine ⟨_,take_ex hL (w.w.q.p.absd w.w.q.d hB3) _ e3,?_⟩;rintro v H3 π3 ⟨rfl,p3,o3⟩ sp3 hle3;have hrow:=hrow.off o3 hB3.dom hpb;have w:=w.step hB3 p3 sp3.dom o3)|refine Y33 ?_|refine Y4 ?_|refine Y0 ?_|(with_reducible first|apply W.seq|apply W.exit|apply W.skip|apply thenK_n|apply thenK_e|apply blockK_n|apply roundN_e)|refine Y1 ?_|refine Y5 ?_|refine Y3 ?_|refine Yn ?_|refine Y42 ?_)
        refine joinN_n rfl fun B' a=>⟨(_,_),?_,w.ends a,fun e=>absurd e (by simp)⟩
        (repeat' (first|exact trivial|exact rfl|apply And.intro));done
       ·repeat (first|refine Y3l ?_|((with_reducible apply (RS.callEx (g0:=66)));(iterate 3 exact rfl);intro B3 hB3;have hrow:=hrow.abs hB3;refine ⟨_,take_ex hL (w.w.q.p.absd w.w.q.d hB3) _ e3,?_⟩;rintro v H3 π3 ⟨rfl,p3,o3⟩ sp3 hle3;have hrow:=hrow.off o3 hB3.dom hpb;have w:=w.step hB3 p3 sp3.dom o3)|((with_reducible apply (RS.callEx (g0:=68)));(iterate 3 exact rfl);intro B4 hB4;have hrow:=hrow.abs hB4;refine ⟨_,want_ex hL (w.w.q.p.absd w.w.q.d hB4) _ e5,?_⟩;rintro v H4 π4 ⟨rfl,p4,o4⟩ sp4 hle4;have hrow:=hrow.off o4 hB4.dom hpb;have w:=w.step hB4 p4 sp4.dom o4)|refine Y33 ?_|refine Y4 ?_|refine Y0 ?_|refine Y3v ?_|refine Y1 ?_|refine Y3 ?_)
        refine roundN_n rfl fun B' a=>⟨(m,l++[d'],u5,kb'),?_,⟨w.ends a,hrow.abs a,fun _=>Nat.le_of_not_lt h6,e6⟩,Nat.lt_succ_self m⟩
        (repeat' (first|exact trivial|exact rfl|apply And.intro));done
 ·rintro ⟨A,c⟩ B π3 sB ⟨w,hA0⟩
  dsimp only at w hA0 ⊢
  cases his:u3.is (tokN L) (b1 123) with
  | true =>
   rw [if_pos his] at h4
   repeat (first|refine Y3y ?_|((with_reducible apply (RS.callEx (g0:=111)));(iterate 3 exact rfl);intro B5 hB5;have hfb5:fb < B5.n:=hB5.dom _ _ (hB5.up _ _ w.w.s);have hrb5:rb < B5.n:=hB5.dom _ _ (hB5.up _ _ w.r);have hlo5:h.n≤B5.n:=Nat.le_trans w.rlo (Nat.le_of_lt hrb5);refine ⟨_,stmt_ok hL _ _ _ _ h4 _ _ _ _ (w.w.q.p.absd w.w.q.d hB5),?_⟩;rintro v H5 π5 ⟨b5,rfl,hs5,p5,o5⟩ sp5 hle5;have w:=w.step hB5 p5 sp5.dom o5)|((with_reducible apply (RS.storeB (cs':=funcDC d A ps.length c (ptrC b5))));(iterate 3 exact rfl);exact w.w.s;exact w.w.q.d _ _ w.w.s;exact hfw;exact Nat.le_of_ble_eq_true rfl;(iterate 3 exact rfl);(have w:=w.write ⟨⟨funcDC d A ps.length c (ptrC b5)⟩,130⟩);(have hs5:=hs5.up (set_upto (c:=⟨⟨funcDC d A ps.length c (ptrC b5)⟩,130⟩) hfb5) (Nat.le_refl _)))|refine Y4b ?_|refine Y3u ?_|((with_reducible first|apply RS.move|apply RS.not|apply RS.fieldAddr);iterate 3 exact rfl)|refine Y0 ?_|refine Yv ?_|refine Y1 ?_|refine Y3 ?_)
   refine endsK_ret _ (.cons (.baseN (vs:=funcDC d A ps.length c (ptrC b5)) rfl (by show (if rb=rb then _ else _)=_;rw [if_pos rfl]) (Nat.le_of_ble_eq_true rfl) rfl) .nil) fun B' a=>?_
   have e:=(w.w.q.other ⟨⟨funcDC d A ps.length c (ptrC b5)⟩,130⟩ w.rlo w.rp htr (w.w.q.d _ _ w.r)).ends a
   exact ⟨A,c,b5,d,⟨rfl,rfl,rfl,hd,hA0⟩,rfl,(hs5.up (set_upto hrb5) hlo5).up (fun i _ c hc=>a.up i c hc) (Nat.le_refl _),e.1,e.2⟩
  | false =>
   rw [if_neg (by rw [his];decide)] at h4
   repeat (first|refine Y3y ?_|((with_reducible apply (RS.callEx (g0:=59)));(iterate 3 exact rfl);intro B2 hB2;refine ⟨_,fail_ex hL (w.w.q.p.absd w.w.q.d hB2) 11,?_⟩;rintro v H2 π2 ⟨rfl,p',o'⟩ sp2 hle2;have w:=w.step hB2 p' sp2.dom o')|((with_reducible apply (RS.callEx (g0:=111)));(iterate 3 exact rfl);intro B5 hB5;have hfb5:fb < B5.n:=hB5.dom _ _ (hB5.up _ _ w.w.s);have hrb5:rb < B5.n:=hB5.dom _ _ (hB5.up _ _ w.r);have hlo5:h.n≤B5.n:=Nat.le_trans w.rlo (Nat.le_of_lt hrb5);refine ⟨_,stmt_ok hL _ _ _ _ h4 _ _ _ _ (w.w.q.p.absd w.w.q.d hB5),?_⟩;rintro v H5 π5 ⟨b5,rfl,hs5,p5,o5⟩ sp5 hle5;have w:=w.step hB5 p5 sp5.dom o5)|((with_reducible apply (RS.storeB (cs':=funcDC d A ps.length c (ptrC b5))));(iterate 3 exact rfl);exact w.w.s;exact w.w.q.d _ _ w.w.s;exact hfw;exact Nat.le_of_ble_eq_true rfl;(iterate 3 exact rfl);(have w:=w.write ⟨⟨funcDC d A ps.length c (ptrC b5)⟩,130⟩);(have hs5:=hs5.up (set_upto (c:=⟨⟨funcDC d A ps.length c (ptrC b5)⟩,130⟩) hfb5) (Nat.le_refl _)))|refine Y4b ?_|refine Y3u ?_|((with_reducible first|apply RS.move|apply RS.not|apply RS.fieldAddr);iterate 3 exact rfl)|refine Y0 ?_|refine Yq ?_|refine Y1 ?_|refine Y5 ?_)
   refine endsK_ret _ (.cons (.baseN (vs:=funcDC d A ps.length c (ptrC b5)) rfl (by show (if rb=rb then _ else _)=_;rw [if_pos rfl]) (Nat.le_of_ble_eq_true rfl) rfl) .nil) fun B' a=>?_
   have e:=(w.w.q.other ⟨⟨funcDC d A ps.length c (ptrC b5)⟩,130⟩ w.rlo w.rp htr (w.w.q.d _ _ w.r)).ends a
   exact ⟨A,c,b5,d,⟨rfl,rfl,rfl,hd,hA0⟩,rfl,(hs5.up (set_upto hrb5) hlo5).up (fun i _ c hc=>a.up i c hc) (Nat.le_refl _),e.1,e.2⟩
end
end Go.Proofs.YtgpigfcagppohaaGreatDoor
