/-
  What the functions that the law reaches compute,told by plain data;it holds of programs that pass the check of right form and are light.
-/
import Derived.Test.YtgpigfcagppohaaGreatDoorR26
import Derived.Test.YtgpigfcagppohaaGreatDoorS2
set_option linter.unusedVariables false
set_option linter.unusedSimpArgs false
namespace Go.Proofs.YtgpigfcagppohaaGreatDoor
open Go.AH
attribute [local irreducible] W RS WR
theorem upS_iff {r:Option (StmtS × PS)} {e:StmtS} {t:PS} (h:upS r=some (e,t)):∃ u,r=some (e,u)∧u.up=some t:=by
 unfold upS at h
 obtain ⟨⟨e1,u⟩,h1,h⟩:=bind_some' h
 obtain ⟨u2,h2,h⟩:=bind_some' h
 simp only [Option.some.injEq,Prod.mk.injEq] at h
 obtain ⟨rfl,rfl⟩:=h
 exact ⟨u,h1,h2⟩
theorem takeF_iff {T:Nat→TokS} {st t:PS} {s:ByteArray} (h:st.take T s=some (false,t)) (hf:st.fk=0):t=st∧st.is T s=false:=by
 unfold PS.take at h
 split at h
 ·obtain ⟨u,h1,h2⟩:=Option.map_eq_some_iff.1 h
  cases h2
 ·rename_i hn
  simp only [Option.some.injEq,Prod.mk.injEq,true_and] at h
  refine ⟨h.symm,?_⟩
  cases hi:st.is T s with
  | false=>rfl
  | true=>exact absurd ⟨hf,hi⟩ hn
theorem take_fk {T:Nat→TokS} {st t:PS} {s:ByteArray} {b:Bool} (h:st.take T s=some (b,t)):t.fk=st.fk:=by
 unfold PS.take at h
 split at h
 ·obtain ⟨u,h1,h2⟩:=Option.map_eq_some_iff.1 h
  simp only [Prod.mk.injEq] at h2
  obtain ⟨_,rfl⟩:=h2
  obtain ⟨_,rfl⟩:=adv_iff h1
  rfl
 ·simp only [Option.some.injEq,Prod.mk.injEq] at h
  rw [← h.2]
section
variable {L:List TokS} {tb cap pb:Nat} {h:Hp} {st:PS}
def StmtQ (L:List TokS) (tb cap pb:Nat) (h:Hp) (lo:Nat) (s:StmtS) (t:PS) (v:Value) (h':Hp):Prop:=∃ b,v=ptrC b∧StmtAt h' lo b s∧ParAt L tb cap pb h' t∧OffP pb h h'
theorem ends_upS {B:Hp} {lo b:Nat} {e:StmtS} {u t:PS} (p:ParAt L tb cap pb B u) (o:OffP pb h B) (he:StmtAt B lo b e) (hd:∀ i c,B.m i=some c→i < B.n) (hpl:pb < lo) (hlo:h.n≤lo) (hup:u.up=some t):∃ Q',GF Tryz.prog 113∧EXD Tryz.prog 113 [ptrC pb] B Q'∧∀ B'',Q' B''→Sat Tryz.prog B''→B.n≤B''.n→StmtQ L tb cap pb h h.n e t (ptrC b) B'' :=
 ⟨_,inferInstance,up_exd p hup,fun _ ⟨p2,o2⟩ _ _=>⟨b,rfl,he.up (o2.upto hd hpl) hlo,p2,o.trans o2⟩⟩
variable {B B1 H1:Hp} {sb:Nat} {c:Blk} {st':PS}
theorem cut_set_up {P:Program} {H B7:Hp} {n k k':Nat} {π:Nat→Nat} {l l':List (Nat × Option Blk)} (hd:(⟨cutH H n,π,k,l⟩:SH).den=H) (a:Absb (P:=P) ⟨(cutH H n).set sb c,π,k',l'⟩ B7) (hk:k≤k') (hl:∀ j,j < k→lookB l' j=lookB l j):∀ i c',i≠sb→H.m i=some c'→B7.m i=some c':=by
 intro i c' hne hc
 rw [← hd] at hc
 simp only [SH.den] at hc
 by_cases hi:i < (cutH H n).n
 ·rw [if_pos hi] at hc
  rw [a.old i hi]
  show (if i=sb then some c else (cutH H n).m i)=_
  rw [if_neg hne];exact hc
 ·rw [if_neg hi] at hc
  cases hx:idx π k i with
  | none=>rw [hx] at hc;cases hc
  | some j =>
   rw [hx] at hc
   obtain ⟨g1,g2⟩:=idx_some hx
   rw [← g2,a.loc j (Nat.lt_of_lt_of_le g1 hk),hl j g1];exact hc
theorem NowS.cutset {P:Program} {H B7:Hp} {n k k':Nat} {π:Nat→Nat} {l l':List (Nat × Option Blk)} {c0:Blk} (w:NowS L tb cap pb h H st sb c0) (hd:(⟨cutH H n,π,k,l⟩:SH).den=H) (a:Absb (P:=P) ⟨(cutH H n).set sb c,π,k',l'⟩ B7) (hk:k≤k') (hl:∀ j,j < k→lookB l' j=lookB l j) (hn:h.n≤n) (hsn:sb < n):NowS L tb cap pb h B7 st sb c:=by
 refine ⟨⟨⟨cut_set_up hd a hk hl _ _ w.tn w.q.p.tok,cut_set_up hd a hk hl _ _ (Nat.ne_of_lt w.ne) w.q.p.par,w.q.p.fits,w.q.p.rw,w.q.p.ne⟩,a.dom,Nat.le_trans hn a.le,fun i hi hne=>?_⟩,?_,w.lo,w.ne,w.tn⟩
 ·rw [a.old i (Nat.lt_of_lt_of_le hi hn),← w.q.o.2 i hi hne]
  show (if i=sb then some c else if i < n then H.m i else none)=_
  rw [if_neg (Nat.ne_of_lt (Nat.lt_of_lt_of_le hi w.lo)),if_pos (Nat.lt_of_lt_of_le hi hn)]
 ·rw [a.old sb hsn]
  show (if sb=sb then some c else _)=_
  rw [if_pos rfl]
theorem gen_up {P:Program} {H B7 Bx:Hp} {n k k':Nat} {π:Nat→Nat} {l l':List (Nat × Option Blk)} (hd:(⟨cutH H n,π,k,l⟩:SH).den=H) (a:Absb (P:=P) ⟨Bx,π,k',l'⟩ B7) (hn:Bx.n=n) (hk:k≤k') (hl:∀ j,j < k→lookB l' j=lookB l j) (S:Nat→Prop) (hS:∀ i,i < n→¬ S i→Bx.m i=H.m i):∀ i c',¬ S i→H.m i=some c'→B7.m i=some c':=by
 intro i c' hne hc
 by_cases hi:i < n
 ·rw [a.old i (by rw [hn];exact hi),hS i hi hne];exact hc
 ·rw [← hd] at hc
  simp only [SH.den] at hc
  rw [if_neg (show ¬ i < (cutH H n).n from hi)] at hc
  cases hx:idx π k i with
  | none=>rw [hx] at hc;cases hc
  | some j =>
   rw [hx] at hc
   obtain ⟨g1,g2⟩:=idx_some hx
   rw [← g2,a.loc j (Nat.lt_of_lt_of_le g1 hk),hl j g1];exact hc
end
def sideTwo (i j b:Nat):List Rk→Prop
 | []=>True
 | r::rs=>(r.eb=none∨r.eb=some (fun id=>id == i)∨r.eb=some fun id=>id == j)∧(r.sb=none∨r.sb=some fun id=>id == b)∧sideTwo i j b rs
theorem sideTwo_all {i j b:Nat} (hi:i≠b) (hj:j≠b):∀ {rs:List Rk},sideTwo i j b rs→∀ x∈rs,∀ y∈rs,SideX x y:=by
 intro rs h x hx y hy e q he hq id hid
 have key:∀ {rs:List Rk},sideTwo i j b rs→∀ x∈rs,(x.eb=none∨x.eb=some (fun id=>id == i)∨x.eb=some fun id=>id == j)∧(x.sb=none∨x.sb=some fun id=>id == b):=by
  intro rs
  induction rs with
  | nil=>intro _ x hx;cases hx
  | cons r rs ih =>
   intro h x hx
   rcases List.mem_cons.1 hx with e|e
   ·subst e;exact ⟨h.1,h.2.1⟩
   ·exact ih h.2.2 x e
 have h1:=(key h x hx).1
 have h2:=(key h y hy).2
 rw [he] at h1
 rw [hq] at h2
 rcases h2 with h2|h2
 ·cases h2
 ·injection h2 with h2
  subst h2
  rcases h1 with h1|h1|h1
  ·cases h1
  ·injection h1 with h1
   subst h1
   have hid:id=i:=by simpa using hid
   subst hid
   simp [hi]
  ·injection h1 with h1
   subst h1
   have hid:id=j:=by simpa using hid
   subst hid
   simp [hj]
theorem NowS.gen {L:List TokS} {tb cap pb:Nat} {h H B7 Bx:Hp} {st:PS} {sb kb k':Nat} {π:Nat→Nat} {l':List (Nat × Option Blk)} {c0 c ct:Blk} (w:NowS L tb cap pb h H st sb c0) {P:Program} (up:∀ i c',¬ (i=sb∨i=kb)→H.m i=some c'→B7.m i=some c') (a:Absb (P:=P) ⟨Bx,π,k',l'⟩ B7) (hn:h.n≤Bx.n) (hB:∀ i,i < h.n→Bx.m i=H.m i) (hpb:pb < h.n) (hd:∀ i c',h.m i=some c'→i < h.n) (ht:h.m tb=some ct) (hk:sb < kb) (hf:Bx.m sb=some c):NowS L tb cap pb h B7 st sb c:=by
 have h1:=w.lo
 have h2:=hd _ _ ht
 refine ⟨⟨⟨up _ _ (by omega) w.q.p.tok,up _ _ (by omega) w.q.p.par,w.q.p.fits,w.q.p.rw,w.q.p.ne⟩,a.dom,Nat.le_trans hn a.le,fun i hi hne=>?_⟩,a.up _ _ hf,w.lo,w.ne,w.tn⟩
 rw [a.old i (Nat.lt_of_lt_of_le hi hn),hB i hi]
 exact w.q.o.2 i hi hne
def RowS (B:Hp) (sb:Nat) (A:Option Addr) (c:Nat) (ps:List Nat) (kids:List StmtS):Prop:=ps.length=kids.length∧((kids=[]∧A=none∧c=0)∨∃ kb,A=some ⟨kb,0,none⟩∧c=capOf 1∧sb < kb∧B.m kb=some ⟨⟨ps.map ptrC⟩,128⟩∧∀ (i p:Nat) (k:StmtS),ps[i]?=some p→kids[i]?=some k→StmtAt (cutH B kb) (sb+1) p k)
theorem cut_m {B:Hp} {n i:Nat} {c:Blk}:(cutH B n).m i=some c↔i < n∧B.m i=some c:=by
 show (if i < n then B.m i else none)=some c↔_
 split
 ·rename_i h;exact ⟨fun e=>⟨h,e⟩,fun e=>e.2⟩
 ·rename_i h;exact ⟨fun e=>absurd e (by simp),fun e=>absurd e.1 h⟩
theorem RowS.up {B B':Hp} {sb:Nat} {A:Option Addr} {c:Nat} {ps:List Nat} {kids:List StmtS} (r:RowS B sb A c ps kids) (u:Upto (sb+1) B B'):RowS B' sb A c ps kids:=by
 obtain ⟨hl,r⟩:=r
 refine ⟨hl,?_⟩
 rcases r with r|⟨kb,h1,h2,h3,h4,h5⟩
 ·exact .inl r
 ·exact .inr ⟨kb,h1,h2,h3,u _ h3 _ h4,fun i p k hp hk=>(h5 i p k hp hk).up (fun j hj b hb=>by obtain ⟨g1,g2⟩:=cut_m.1 hb;exact cut_m.2 ⟨g1,u _ hj _ g2⟩) (Nat.le_refl _)⟩
theorem RowS.grow {B H5 B7:Hp} {sb kb7 b5 lo5:Nat} {A:Option Addr} {c:Nat} {ps:List Nat} {kids:List StmtS} {s1:StmtS} (r:RowS B sb A c ps kids) (u1:Upto (sb+1) B H5) (d5:∀ i c,H5.m i=some c→i < H5.n) (dB:∀ i c,B.m i=some c→i < B.n) (hBn:B.n≤H5.n) (u2:∀ i c',i≠sb→(∀ kb,A=some ⟨kb,0,none⟩→i≠kb)→H5.m i=some c'→B7.m i=some c')
 (hs:StmtAt H5 lo5 b5 s1) (hlo:B.n≤lo5) (hsb:sb < B.n) (hk7:H5.n≤kb7) (hrow:B7.m kb7=some ⟨⟨ps.map ptrC++[ptrC b5]⟩,128⟩):RowS B7 sb (some ⟨kb7,0,none⟩) (capOf 1) (ps++[b5]) (kids++[s1]):=by
 obtain ⟨hl,r⟩:=r
 refine ⟨by simp [hl],.inr ⟨kb7,rfl,rfl,by omega,by simpa using hrow,fun i p k hp hk=>?_⟩⟩
 by_cases hi:i < ps.length
 ·rw [List.getElem?_append_left hi] at hp
  rw [List.getElem?_append_left (by omega)] at hk
  rcases r with ⟨rfl,_⟩|⟨kb,h1,h2,h3,h4,h5⟩
  ·simp at hk
  ·refine (h5 i p k hp hk).up (fun j hj b hb=>?_) (Nat.le_refl _)
   obtain ⟨g1,g2⟩:=cut_m.1 hb
   have hjB:=dB _ _ g2
   exact cut_m.2 ⟨by omega,u2 _ _ (by omega) (fun kb' e=>by rw [h1] at e;injection e with e;injection e with e;omega) (u1 _ hj _ g2)⟩
 ·rw [List.getElem?_append_right (by omega)] at hp hk
  have h0:i - ps.length=0:=by
   cases hx:i - ps.length with
   | zero=>rfl
   | succ x=>rw [hx] at hp;simp at hp
  rw [h0] at hp
  rw [show i - kids.length=0 by omega] at hk
  simp at hp hk
  subst hp;subst hk
  refine hs.up (fun j hj b hb=>?_) (by omega)
  have hjn:=d5 _ _ hb
  refine cut_m.2 ⟨by omega,u2 _ _ (by omega) (fun kb' e=>?_) hb⟩
  rcases r with ⟨_,h1,_⟩|⟨kb,h1,h2,h3,h4,h5⟩
  ·rw [h1] at e;cases e
  ·rw [h1] at e;injection e with e;injection e with e
   have:=dB _ _ h4
   omega
theorem RowS.at {B:Hp} {sb p lo:Nat} {A:Option Addr} {c:Nat} {ps:List Nat} {kids:List StmtS} (r:RowS B sb A c ps kids) (hm:B.m sb=some ⟨⟨stmtC 3 p zeroDecl none 0 (.pointer none) A kids.length c⟩,191⟩) (hlo:lo≤sb):StmtAt B lo sb (.mk 3 p zeroDecl none kids):=by
 obtain ⟨hl,r⟩:=r
 rcases r with ⟨rfl,rfl,rfl⟩|⟨kb,rfl,rfl,h3,h4,h5⟩
 ·exact .mk (ps:=[]) hlo hm (.inl ⟨rfl,rfl⟩) rfl (.inl ⟨rfl,rfl⟩) rfl (fun i p k h=>by simp at h)
 ·exact .mk (ps:=ps) hlo hm (.inl ⟨rfl,rfl⟩) rfl (.inr ⟨kb,rfl,by omega,h4⟩) hl (fun i p k hp hk=>(h5 i p k hp hk).up (fun j hj b hb=>(cut_m.1 hb).2) (by omega))
section
variable {L:List TokS} {tb cap pb:Nat} {h:Hp} {st:PS}
set_option maxHeartbeats 4000000 in
theorem stmt_ok (hL:ToksOK L):∀ (n:Nat) (st:PS) (s:StmtS) (t:PS),parseS (tokN L) n .stmt st=some (s,t)→∀ tb cap pb h,ParAt L tb cap pb h st→EX Tryz.prog 111 [ptrC pb] h (StmtQ L tb cap pb h h.n s t):=by
 intro n
 induction n using Nat.strongRecOn with
 | _ n ih =>
 cases n with
 | zero=>intro st s t hs;rw [parseS] at hs;cases hs
 | succ n =>
 intro st s t hs tb cap pb h p
 rw [parseS] at hs
 obtain ⟨u1,h1,hs⟩:=bind_some' hs
 obtain ⟨u2,h2,hs⟩:=bind_some' hs
 refine EX.introD (fn:=Tryz.f111) (c:=(Tryz.f111.body.getD .skip)) Tryz.func111 (by kernel_rfl) Tryz.ntmps111 (by kernel_rfl) fun π s0=>?_
 conv=>arg 3;whnf
 have hpb:=s0.dom _ _ p.par
 have q:Now L tb cap pb h h st:=⟨p,s0.dom,OffP.refl pb h⟩
 refine WD.plain fun inst _=>?_
 repeat (first|refine Yw ?_|refine Y0 ?_|refine Y1 ?_)
 refine thenD_n ?_
 refine WD.plain fun inst _=>?_
 repeat (first|refine Y14 ?_|refine Y2u ?_|refine Y3a ?_|refine Ya ?_|refine Y0 ?_|refine Y1 ?_)
 refine thenD_n ?_
 refine WD.plain fun inst _=>?_
 refine W.absorbX fun G π0 a0=>?_
 have w:NowS L tb cap pb h G st (π 0) ⟨⟨stmtC 0 (st.tok (tokN L)).pos zeroDecl none 0 (.pointer none) none 0 0⟩,191⟩:=⟨⟨(q.ends a0).1,a0.dom,(q.ends a0).2⟩,a0.loc 0 (Nat.lt_succ_self 0),a0.lo 0 (Nat.lt_succ_self 0),Nat.lt_of_lt_of_le hpb (a0.lo 0 (Nat.lt_succ_self 0)),fun e=>by have h1:h.n≤π 0:=a0.lo 0 (Nat.lt_succ_self 0);have h2:=s0.dom _ _ p.tok;omega⟩
 generalize π 0=sb at *
 repeat (first|((with_reducible apply (RS.callEx (g0:=112)));(iterate 3 exact rfl);intro B1 hB1;refine ⟨_,node_ex hL (w.q.p.absd w.q.d hB1) h1,?_⟩;rintro v H1 π1 ⟨rfl,p',o'⟩ sp' hle1;have w:=w.step hB1 p' sp'.dom o')|refine Y11 ?_|refine Y0 ?_|refine Y1 ?_)
 refine thenD_n ?_
 refine WD.seq (WD.moveDefer (by kernel_rfl) rfl rfl ?_)
 refine thenD_n ?_
 refine WD.lift fun inst _=>?_
 by_cases hf:u2.fk=0
 case neg =>
  rw [if_pos hf] at hs
  obtain ⟨u,hr,hup⟩:=upS_iff hs
  simp only [Option.some.injEq,Prod.mk.injEq] at hr
  obtain ⟨rfl,rfl⟩:=hr
  repeat (first|((with_reducible apply (RS.callEx (g0:=114)));(iterate 3 exact rfl);intro B2 hB2;refine ⟨_,down_exb hL (w.q.p.absd w.q.d hB2) h2 (decide_eq_false hf),?_⟩;rintro v H2 π2 ⟨rfl,p',o'⟩ sp2 hle2;have w:=w.step hB2 p' sp2.dom o')|refine Y1o ?_|refine Y0 ?_|refine Y13 ?_|refine Y1 ?_|refine Y5 ?_)
  refine ⟨.inl rfl,[_],.cons rfl .nil,fun B' a=>?_⟩
  exact ends_upS (w.q.ends a).1 (w.q.ends a).2 (.mk (ps:=[]) (kids:=[]) w.lo (a.up _ _ w.s) (.inl ⟨rfl,rfl⟩) rfl (.inl ⟨rfl,rfl⟩) rfl (fun i p k h=>by simp at h)) a.dom hpb (Nat.le_refl _) hup
 rw [if_neg (fun hc=>hc hf)] at hs
 obtain ⟨u,hr,hup⟩:=upS_iff hs
 clear hs
 have hsw:rwM≤sb:=Nat.le_trans a0.rw w.lo
 split at hr
 ·cases hr
 rename_i i1'
 have i1:u2.is (tokN L) (b1 59)=false:=by simpa using i1'
 obtain ⟨⟨b3,u3⟩,h3,hq⟩:=bind_some' hr
 clear hr
 have hr:=hq
 clear hq
 dsimp only at hr
 cases b3 with
 | false =>
  obtain ⟨e3,i2⟩:=takeF_iff h3 hf
  subst e3
  rw [if_pos rfl] at hr
  unfold retS at hr
  split at hr
  ·cases hr
  rename_i hno
  simp only [noWords,List.any_cons,List.any_nil,Bool.or_false,Bool.or_eq_true,not_or,Bool.not_eq_true] at hno
  obtain ⟨i3,i4,i5,i6,i7,i8,i9⟩:=hno
  obtain ⟨⟨b4,u4⟩,h4,hq⟩:=bind_some' hr
  clear hr
  have hr:=hq
  clear hq
  dsimp only at hr
  cases b4 with
  | true =>
   simp only [if_true] at hr
   split at hr
   ·cases hr
   rename_i ib'
   have ib:u4.is (tokN L) (b1 59)=false:=by simpa using ib'
   obtain ⟨⟨e5,u5⟩,h5,hq⟩:=bind_some' hr
   clear hr
   have hr:=hq
   clear hq
   obtain ⟨u6,h6,hq⟩:=bind_some' hr
   clear hr
   have hr:=hq
   clear hq
   simp only [Option.some.injEq,Prod.mk.injEq] at hr
   obtain ⟨rfl,rfl⟩:=hr
   repeat (first|((with_reducible apply (RS.callEx (g0:=114)));(iterate 3 exact rfl);intro B2 hB2;refine ⟨_,down_exb hL (w.q.p.absd w.q.d hB2) h2 (decide_eq_true hf),?_⟩;rintro v H2 π2 ⟨rfl,p',o'⟩ sp2 hle2;have w:=w.step hB2 p' sp2.dom o')|refine Y1b ?_|((with_reducible apply (RS.callEx (g0:=66)));(iterate 3 exact rfl);intro B4 hB4;refine ⟨_,take_ex hL (w.q.p.absd w.q.d hB4) _ h4,?_⟩;rintro v H4 π4 ⟨rfl,p4,o4⟩ sp4 hle4;have w:=w.step hB4 p4 sp4.dom o4)|((with_reducible apply (RS.callA (g0:=60)));(iterate 3 exact rfl);exact fun B' hB'=>is_tf hL (w.q.p.absd w.q.d hB') _ ib)|((with_reducible apply (RS.storeB (cs':=stmtC 11 (st.tok (tokN L)).pos zeroDecl none 0 (.pointer none) none 0 0)));(iterate 3 exact rfl);exact w.s;exact w.q.d _ _ w.s;exact hsw;exact Nat.le_of_ble_eq_true rfl;(iterate 3 exact rfl);(have w:=w.write ⟨⟨stmtC 11 (st.tok (tokN L)).pos zeroDecl none 0 (.pointer none) none 0 0⟩,191⟩))|((with_reducible apply (RS.callEx (g0:=149)));(iterate 3 exact rfl);intro B5 hB5;have hsb5:sb < B5.n:=hB5.dom _ _ (hB5.up _ _ w.s);have hlo5:h.n≤B5.n:=Nat.le_trans w.lo (Nat.le_of_lt hsb5);refine ⟨_,full_ex hL (w.q.p.absd w.q.d hB5) h5,?_⟩;rintro v H5 π5 ⟨b5,rfl,he5,p5,o5⟩ sp5 hle5;have w:=w.step hB5 p5 sp5.dom o5)|((with_reducible apply (RS.storeB (cs':=stmtC 11 (st.tok (tokN L)).pos zeroDecl none 0 (ptrC b5) none 0 0)));(iterate 3 exact rfl);exact w.s;exact w.q.d _ _ w.s;exact hsw;exact Nat.le_of_ble_eq_true rfl;(iterate 3 exact rfl);(have w:=w.write ⟨⟨stmtC 11 (st.tok (tokN L)).pos zeroDecl none 0 (ptrC b5) none 0 0⟩,191⟩);(have he5:=he5.up (set_upto (c:=⟨⟨stmtC 11 (st.tok (tokN L)).pos zeroDecl none 0 (ptrC b5) none 0 0⟩,191⟩) hsb5) (Nat.le_refl _)))|((with_reducible apply (RS.callEx (g0:=68)));(iterate 3 exact rfl);intro B6 hB6;refine ⟨_,want_ex hL (w.q.p.absd w.q.d hB6) _ h6,?_⟩;rintro v H6 π6 ⟨rfl,p6,o6⟩ sp6 hle6;have he5:=he5.up ((((OffP.refl pb _).abs hB6).trans o6).upto w.q.d (Nat.lt_trans w.ne hsb5)) (Nat.le_refl _);have w:=w.step hB6 p6 sp6.dom o6)|refine Yl ?_|refine Y0 ?_|refine Y18 ?_|refine Y1 ?_|refine Y5 ?_|refine Y3 ?_)
   refine ⟨.inl rfl,[_],.cons rfl .nil,fun B' a=>?_⟩
   exact ends_upS (w.q.ends a).1 (w.q.ends a).2 (.mk (ps:=[]) (kids:=[]) (e:=some e5) w.lo (a.up _ _ w.s) (.inl ⟨rfl,rfl⟩) ⟨b5,rfl,he5.up (fun i _ c hc=>a.up i c hc) hlo5⟩ (.inl ⟨rfl,rfl⟩) rfl (fun i p k h=>by simp at h)) a.dom hpb (Nat.le_refl _) hup
  | false =>
   simp only [Bool.false_eq_true,if_false] at hr
   obtain ⟨⟨⟨kind5,pos5,dc5,e5,kids5⟩,u5⟩,h5,hq⟩:=bind_some' hr
   clear hr
   have hr:=hq
   clear hq
   obtain ⟨u6,h6,hq⟩:=bind_some' hr
   clear hr
   have hr:=hq
   clear hq
   simp only [Option.some.injEq,Prod.mk.injEq] at hr
   obtain ⟨rfl,rfl⟩:=hr
   repeat (first|((with_reducible apply (RS.callEx (g0:=114)));(iterate 3 exact rfl);intro B2 hB2;refine ⟨_,down_exb hL (w.q.p.absd w.q.d hB2) h2 (decide_eq_true hf),?_⟩;rintro v H2 π2 ⟨rfl,p',o'⟩ sp2 hle2;have w:=w.step hB2 p' sp2.dom o')|refine Y1b ?_|((with_reducible apply (RS.callEx (g0:=66)));(iterate 3 exact rfl);intro B4 hB4;refine ⟨_,take_ex hL (w.q.p.absd w.q.d hB4) _ h4,?_⟩;rintro v H4 π4 ⟨rfl,p4,o4⟩ sp4 hle4;have w:=w.step hB4 p4 sp4.dom o4)|((with_reducible apply (RS.callEx (g0:=150)));(iterate 3 exact rfl);intro B5 hB5;have hsb5:sb < B5.n:=hB5.dom _ _ (hB5.up _ _ w.s);have hlo5:h.n≤B5.n:=Nat.le_trans w.lo (Nat.le_of_lt hsb5);refine ⟨_,simple_ex hL h5 (w.abs hB5) hsw,?_⟩;rintro v H5 π5 ⟨rfl,hle5',rfl,D,d',E,w,hr5,he5⟩ sp5 hle5)|((with_reducible apply (RS.callEx (g0:=68)));(iterate 3 exact rfl);intro B6 hB6;refine ⟨_,want_ex hL (w.q.p.absd w.q.d hB6) _ h6,?_⟩;rintro v H6 π6 ⟨rfl,p6,o6⟩ sp6 hle6;have uu:=(((OffP.refl pb _).abs hB6).trans o6).upto w.q.d (Nat.lt_trans w.ne hsb5);have hr5:=hr5.up uu (Nat.le_refl _);have he5:=he5.up uu (Nat.le_refl _);have w:=w.step hB6 p6 sp6.dom o6)|refine Y1o ?_|refine Y0 ?_|refine Y18 ?_|refine Y1 ?_|refine Y3 ?_)
   refine ⟨.inl rfl,[_],.cons rfl .nil,fun B' a=>?_⟩
   exact ends_upS (w.q.ends a).1 (w.q.ends a).2 (.mk (ps:=[]) (kids:=[]) w.lo (a.up _ _ w.s) (hr5.up (fun i _ c hc=>a.up i c hc) hlo5) (he5.up (fun i _ c hc=>a.up i c hc) hlo5) (.inl ⟨rfl,rfl⟩) rfl (fun i p k h=>by simp at h)) a.dom hpb (Nat.le_refl _) hup
 | true =>
  rw [if_neg (by decide)] at hr
  repeat (first|((with_reducible apply (RS.callEx (g0:=114)));(iterate 3 exact rfl);intro B2 hB2;refine ⟨_,down_exb hL (w.q.p.absd w.q.d hB2) h2 (decide_eq_true hf),?_⟩;rintro v H2 π2 ⟨rfl,p',o'⟩ sp2 hle2;have w:=w.step hB2 p' sp2.dom o')|((with_reducible apply (RS.callA (g0:=66)));(iterate 3 exact rfl);exact fun B' hB'=>takeN_tf hL (w.q.p.absd w.q.d hB') _ i1)|((with_reducible apply (RS.callEx (g0:=66)));(iterate 3 exact rfl);intro B3 hB3;refine ⟨_,take_ex hL (w.q.p.absd w.q.d hB3) _ h3,?_⟩;rintro v H3 π3 ⟨rfl,p3,o3⟩ sp3 hle3;have w:=w.step hB3 p3 sp3.dom o3)|((with_reducible apply (RS.storeB (cs':=stmtC 3 (st.tok (tokN L)).pos zeroDecl none 0 (.pointer none) none 0 0)));(iterate 3 exact rfl);exact w.s;exact w.q.d _ _ w.s;exact hsw;exact Nat.le_of_ble_eq_true rfl;(iterate 3 exact rfl);(have w:=w.write ⟨⟨stmtC 3 (st.tok (tokN L)).pos zeroDecl none 0 (.pointer none) none 0 0⟩,191⟩))|refine Yl ?_|refine Y0 ?_|refine Y68 ?_|refine Y1 ?_|refine Y5 ?_|refine Y3 ?_)
  refine W.loopN (X:=Nat × List StmtS × List Nat × PS × Option Addr × Nat) (fun _=>[(0,ptrC pb),(3,ptrC sb)]) (fun x B=>NowS L tb cap pb h B x.2.2.2.1 sb ⟨⟨stmtC 3 (st.tok (tokN L)).pos zeroDecl none 0 (.pointer none) x.2.2.2.2.1 x.2.1.length x.2.2.2.2.2⟩,191⟩∧RowS B sb x.2.2.2.2.1 x.2.2.2.2.2 x.2.2.1 x.2.1∧x.1 < n+1∧parseS (tokN L) x.1 (.block (st.tok (tokN L)).pos x.2.1) x.2.2.2.1=some (s,u)) (fun x=>x.1) (fun B' a=>⟨(n,[],[],u3,none,0),?_,w.abs a,⟨rfl,.inl ⟨rfl,rfl,rfl⟩⟩,Nat.lt_succ_self n,hr⟩) ?_
  ·(repeat' (first|exact trivial|exact rfl|apply And.intro));done
  clear hr w h3
  rintro ⟨m,kids,ps,st',A,c⟩ B π9 sB ⟨w,row,hm,hr⟩
  dsimp only at w row hm hr ⊢
  have hpB:pb < B.n:=sB.dom _ _ w.q.p.par
  have hsB:sb < B.n:=sB.dom _ _ w.s
  cases m with
  | zero=>rw [parseS] at hr;cases hr
  | succ m =>
   rw [parseS] at hr
   by_cases hf5:st'.fk=0
   ·rw [if_neg (fun hc=>hc hf5)] at hr
    split at hr
    ·cases hr
    rename_i hkl
    obtain ⟨⟨b6,u6⟩,h6,hq⟩:=bind_some' hr
    clear hr
    have hr:=hq
    clear hq
    dsimp only at hr
    cases b6 with
    | true =>
     rw [if_pos rfl] at hr
     simp only [Option.some.injEq,Prod.mk.injEq] at hr
     obtain ⟨rfl,rfl⟩:=hr
     repeat (first|refine Y3n ?_|((with_reducible apply (RS.callEx (g0:=66)));(iterate 3 exact rfl);intro B6 hB6;refine ⟨_,take_ex hL (w.q.p.absd w.q.d hB6) _ h6,?_⟩;rintro v H6 π6 ⟨rfl,p6,o6⟩ sp6 hle6;have row:=row.up ((((OffP.refl pb _).abs hB6).trans o6).upto w.q.d (Nat.lt_succ_of_lt w.ne));have w:=w.step hB6 p6 sp6.dom o6)|refine Y1o ?_|refine Yd ?_|refine Y0 ?_|refine Y61 ?_|refine Y1 ?_|refine Y3 ?_|refine Yn ?_)
     refine ⟨.inl rfl,[_],.cons rfl .nil,fun B' a=>?_⟩
     exact ends_upS (w.q.ends a).1 (w.q.ends a).2 ((row.up (fun i _ c hc=>a.up i c hc)).at (a.up _ _ w.s) w.lo) a.dom hpb (Nat.le_refl _) hup
    | false =>
     obtain ⟨e6,i6⟩:=takeF_iff h6 hf5
     subst e6
     rw [if_neg (by decide)] at hr
     obtain ⟨⟨s1,u7⟩,h7,hq⟩:=bind_some' hr
     clear hr
     have hr:=hq
     clear hq
     dsimp only at hr
     clear h6
     have hnB:h.n≤B.n:=w.q.o.1
     obtain ⟨hpl,hrow⟩:=row
     have row:RowS B sb A c ps kids:=⟨hpl,hrow⟩
     rcases hrow with ⟨rfl,rfl,rfl⟩|⟨kb,rfl,rfl,hskb,hkm,_⟩
     ·obtain rfl:ps=[]:=List.length_eq_zero_iff.1 hpl
      repeat (first|refine Y3n ?_|refine Y5r ?_|((with_reducible apply RS.load1X);(iterate 3 exact rfl);exact w.s;exact w.q.d _ _ w.s;exact rfl)|((with_reducible apply (RS.callYE (g0:=111) (fun id=>id == pb)));(iterate 3 exact rfl);intro B4 he4 hB4;have hB4n:B.n≤B4.n:=hB4.le;have hsb4:sb < B4.n:=hB4.dom _ _ (hB4.up _ _ w.s);refine ⟨_,ih m (Nat.lt_of_succ_lt hm) _ _ _ h7 _ _ _ _ (w.q.p.absd w.q.d hB4),(fun v H' hq i hi hei=>by obtain ⟨b,_,_,_,o5⟩:=hq;exact o5.2 i (Nat.lt_of_lt_of_le hi hB4.le) (by simpa using hei)),?_⟩;rintro v H5 k5 l5 ⟨b5,rfl,hs5,p5,o5⟩ s5 hle5 hm5 hden5 hwf5 hk5;have oo:=((OffP.refl pb _).abs hB4).trans o5;have hsn:=w.q.d _ _ w.s;have hdB:=w.q.d;have w:=w.step hB4 p5 s5.dom o5)|refine Yi ?_|refine Y2m ?_|((with_reducible apply (RS.storeB (cs':=stmtC 3 (st.tok (tokN L)).pos zeroDecl none 0 (.pointer none) (some ⟨π9 (k5+1),0,none⟩) 1 (capOf 1))));(iterate 3 exact rfl);exact ((if_pos hsn).trans w.s);exact hsn;exact hsw;exact Nat.le_of_ble_eq_true rfl;iterate 3 exact rfl)|((with_reducible apply (RS.nilPC mixed [(0,1),(0,2),(0,3),(0,4),(4,5),(3,5),(2,5),(1,5),(0,5),(4,6),(3,6),(2,6),(1,6),(0,6),(4,7),(3,7),(2,7),(1,7),(0,7),(0,8)]));kernel_rfl;(repeat (refine ⟨fun x y hx hy=>(by obtain rfl:=Option.some.inj hx;obtain rfl:=Option.some.inj hy;exact pairR_free rfl rfl rfl rfl rfl rfl rfl (Nat.zero_le _) rfl),?_⟩));exact trivial;exact sideOK_all (j:=pb) (b:=sb) (Nat.ne_of_lt w.ne) (by repeat' (first|exact trivial|exact .inl rfl|exact .inr rfl|apply And.intro));exact rfl)|refine Y16 ?_|refine Yd ?_|refine Y0 ?_|refine Yt ?_|refine Y1 ?_|refine Y5 ?_)
      have hlk:∀ (x y:Option Blk) (j:Nat),j < k5→lookB ((k5+1,x)::(k5,y)::l5) j=lookB l5 j:=fun x y j hj=>by rw [look_cons,look_cons,if_neg (Nat.ne_of_gt (Nat.lt_succ_of_lt hj)),if_neg (Nat.ne_of_gt hj)]
      have hkn:π9 k5=H5.n:=congrArg Hp.n hden5
      have hkn1:π9 (k5+1)=π9 k5+1:=hwf5.up k5 (Nat.le_refl k5)
      refine roundN_n rfl fun B7 a7=>⟨(m,[s1],[b5],u7,some ⟨π9 (k5+1),0,none⟩,capOf 1),?_,⟨w.cutset (c:=⟨⟨stmtC 3 (st.tok (tokN L)).pos zeroDecl none 0 (.pointer none) (some ⟨π9 (k5+1),0,none⟩) 1 (capOf 1)⟩,191⟩) hden5 a7 (Nat.le_add_right k5 2) (hlk _ _) hnB hsn,row.grow (oo.upto hdB (Nat.lt_succ_of_lt w.ne)) s5.dom hdB (Nat.le_trans hB4n hle5) (fun i c' hne _ hc=>cut_set_up hden5 a7 (Nat.le_add_right k5 2) (hlk _ _) i c' hne hc) hs5 hB4n hsn (by omega) ((a7.loc (k5+1) (Nat.lt_succ_self _)).trans ((look_cons _ _ _).trans (if_pos rfl))),Nat.lt_of_succ_lt hm,hr⟩,Nat.lt_succ_self m⟩
      (repeat' (first|exact trivial|exact rfl|apply And.intro));done
     ·have hkB:kb < B.n:=sB.dom _ _ hkm
      have hkp:kb≠pb:=by have:=w.ne;omega
      have hkw:rwM≤kb:=Nat.le_trans hsw (Nat.le_of_lt hskb)
      repeat (first|refine Y3n ?_|refine Y5r ?_|((with_reducible apply RS.load1X);(iterate 3 exact rfl);exact w.s;exact w.q.d _ _ w.s;exact rfl)|refine Yi ?_|((with_reducible apply (RS.callYE (g0:=111) (fun id=>id == pb)));(iterate 3 exact rfl);intro B4 he4 hB4;have hB4n:B.n≤B4.n:=hB4.le;have hsb4:sb < B4.n:=hB4.dom _ _ (hB4.up _ _ w.s);refine ⟨_,ih m (Nat.lt_of_succ_lt hm) _ _ _ h7 _ _ _ _ (w.q.p.absd w.q.d hB4),(fun v H' hq i hi hei=>by obtain ⟨b,_,_,_,o5⟩:=hq;exact o5.2 i (Nat.lt_of_lt_of_le hi hB4.le) (by simpa using hei)),?_⟩;rintro v H5 k5 l5 ⟨b5,rfl,hs5,p5,o5⟩ s5 hle5 hm5 hden5 hwf5 hk5;have oo:=((OffP.refl pb _).abs hB4).trans o5;have hsn:=w.q.d _ _ w.s;have hdB:=w.q.d;have hkm:=oo.keep hkm hkB hkp;have w:=w.step hB4 p5 s5.dom o5)|((with_reducible apply (RS.growXL (j:=kb) (i:=k5)));(iterate 6 exact rfl);exact ((if_pos hkB).trans hkm);exact hkB;exact hkw;exact (List.length_map ptrC).trans (hpl.trans (Nat.mul_one _).symm);exact blt_iff.2 (Nat.lt_succ_self k5);exact ((look_cons _ _ _).trans (if_pos rfl));exact Nat.le_of_ble_eq_true rfl;exact rfl;exact Nat.le_trans (Nat.mul_le_mul_right _ (show kids.length+1≤1000 from by omega)) (Nat.le_of_ble_eq_true rfl);exact Nat.le_trans (show kids.length+1≤1000 from by omega) (Nat.le_of_ble_eq_true rfl))|((with_reducible apply (RS.storeB (cs':=stmtC 3 (st.tok (tokN L)).pos zeroDecl none 0 (.pointer none) (some ⟨π9 (k5+1),0,none⟩) (kids.length+1) (capOf 1))));(iterate 3 exact rfl);exact ((if_neg (Nat.ne_of_lt hskb)).trans ((if_pos hsn).trans w.s));exact hsn;exact hsw;exact Nat.le_of_ble_eq_true rfl;iterate 3 exact rfl)|((with_reducible apply (RS.nilPC mixed [(0,1),(0,2),(0,3),(0,4),(4,5),(3,5),(2,5),(1,5),(0,5),(4,6),(3,6),(2,6),(1,6),(0,6),(4,7),(3,7),(2,7),(1,7),(0,7),(0,8)]));kernel_rfl;(repeat (refine ⟨fun x y hx hy=>(by obtain rfl:=Option.some.inj hx;obtain rfl:=Option.some.inj hy;exact pairR_free rfl rfl rfl rfl rfl rfl rfl (Nat.zero_le _) rfl),?_⟩));exact trivial;exact sideTwo_all (i:=pb) (j:=kb) (b:=sb) (Nat.ne_of_lt w.ne) (Nat.ne_of_gt hskb) (by repeat' (first|exact trivial|exact .inl rfl|exact .inr rfl|exact .inr (.inl rfl)|exact .inr (.inr rfl)|apply And.intro));exact rfl)|refine Y16 ?_|refine Yd ?_|refine Y0 ?_|refine Yt ?_|refine Y1 ?_|refine Y5 ?_)
      have hlk:∀ (x y:Option Blk) (j:Nat),j < k5→lookB ((k5+1,x)::(k5,y)::l5) j=lookB l5 j:=fun x y j hj=>by rw [look_cons,look_cons,if_neg (Nat.ne_of_gt (Nat.lt_succ_of_lt hj)),if_neg (Nat.ne_of_gt hj)]
      have hkn:π9 k5=H5.n:=congrArg Hp.n hden5
      have hkn1:π9 (k5+1)=π9 k5+1:=hwf5.up k5 (Nat.le_refl k5)
      refine roundN_n rfl fun B7 a7=>?_
      have up:=gen_up hden5 a7 rfl (Nat.le_add_right k5 2) (hlk _ _) (fun i=>i=sb∨i=kb) (fun i hi hne=>by
       show (if i=sb then _ else if i=kb then none else if i < B.n then H5.m i else none)=_
       rw [if_neg (fun e=>hne (.inl e)),if_neg (fun e=>hne (.inr e))];exact if_pos hi)
      refine ⟨(m,kids++[s1],ps++[b5],u7,some ⟨π9 (k5+1),0,none⟩,capOf 1),?_,⟨?_,row.grow (oo.upto hdB (Nat.lt_succ_of_lt w.ne)) s5.dom hdB (Nat.le_trans hB4n hle5) (fun i c' hne hk hc=>up i c' (fun e=>by rcases e with e|e;exact hne e;exact hk kb rfl e) hc) hs5 hB4n hsn (by omega) ((a7.loc (k5+1) (Nat.lt_succ_self _)).trans ((look_cons _ _ _).trans (if_pos rfl))),Nat.lt_of_succ_lt hm,hr⟩,Nat.lt_succ_self m⟩
      ·(repeat' (first|exact trivial|exact rfl|apply And.intro));done
      ·rw [show (kids++[s1]).length=kids.length+1 by simp]
       exact w.gen (c:=⟨⟨stmtC 3 (st.tok (tokN L)).pos zeroDecl none 0 (.pointer none) (some ⟨π9 (k5+1),0,none⟩) (kids.length+1) (capOf 1)⟩,191⟩) up a7 hnB (fun i hi=>by show (if i=sb then _ else if i=kb then none else if i < B.n then H5.m i else none)=_;rw [if_neg (by have:=w.lo;omega),if_neg (by have:=w.lo;omega)];exact if_pos (by omega)) hpb s0.dom p.tok hskb (if_pos rfl)
   ·rw [if_pos hf5] at hr
    simp only [Option.some.injEq,Prod.mk.injEq] at hr
    obtain ⟨rfl,rfl⟩:=hr
    repeat (first|((with_reducible apply (RS.callA (g0:=30)));(iterate 3 exact rfl);exact fun B' hB'=>ok_tf (w.q.p.absd w.q.d hB') (decide_eq_false hf5))|refine Y7 ?_|refine Yc ?_|refine Yk ?_|refine Y0 ?_|refine Y61 ?_|refine Y1 ?_|refine Y3 ?_|refine Yn ?_)
    refine ⟨.inl rfl,[_],.cons rfl .nil,fun B' a=>?_⟩
    exact ends_upS (w.q.ends a).1 (w.q.ends a).2 ((row.up (fun i _ c hc=>a.up i c hc)).at (a.up _ _ w.s) w.lo) a.dom hpb (Nat.le_refl _) hup
end
end Go.Proofs.YtgpigfcagppohaaGreatDoor
