/-
  What the functions that the law reaches compute,told by plain data;it holds of programs that pass the check of right form and are light.
-/
import Derived.Test.YtgpigfcagppohaaGreatDoorR1
import Derived.Test.YtgpigfcagppohaaGreatDoorR2
import Derived.Test.YtgpigfcagppohaaGreatDoorR29
import Derived.Test.YtgpigfcagppohaaGreatDoorR33
import Derived.Test.YtgpigfcagppohaaGreatDoorR5
import Derived.Test.YtgpigfcagppohaaGreatDoorS1
import Derived.Test.YtgpigfcagppohaaGreatDoorS3
set_option linter.unusedVariables false
set_option linter.unusedSimpArgs false
namespace Go.Proofs.YtgpigfcagppohaaGreatDoor
open Go.AH
attribute [local irreducible] W RS
theorem toksC_snoc (l:List TokS) (t:TokS):toksC (l++[t])=toksC l++tokC t:=by simp [toksC]
def scanV (n:Nat):Except (Nat × Nat) (List TokS)→Value
 | .error (k,p)=>.tuple ⟨[.slice none 0 0,.agg ⟨[.int .i64 k,.int .i64 p]⟩]⟩
 | .ok l=>.tuple ⟨[.slice (some ⟨n,0,none⟩) l.length (capOf 6),.agg ⟨[.int .i64 0,.int .i64 0]⟩]⟩
def scanH (h:Hp):Except (Nat × Nat) (List TokS)→Hp
 | .error _=>h
 | .ok l=>h.push ⟨⟨toksC l⟩,102⟩
def outV (b:Nat):List TokS→Value
 | []=>.slice none 0 0
 | t::l=>.slice (some ⟨b,0,none⟩) (t::l).length (capOf 6)
def outB:List TokS→Option Blk
 | []=>none
 | t::l=>some ⟨⟨toksC (t::l)⟩,102⟩
def ScanE (s:ByteArray) (h:Hp) (vs:List Value) (h':SH):Prop:=h'.base=h∧match scanS s with
 | .error (k,p)=>resultOf vs=.tuple ⟨[.slice none 0 0,.agg ⟨[.int .i64 k,.int .i64 p]⟩]⟩
 | .ok l=>∃ i,i < h'.k∧lookB h'.l i=some ⟨⟨toksC l⟩,102⟩∧resultOf vs=.tuple ⟨[.slice (some ⟨h'.π i,0,none⟩) l.length (capOf 6),.agg ⟨[.int .i64 0,.int .i64 0]⟩]⟩
set_option maxRecDepth 100000 in
theorem scan_tf (s:ByteArray) (h:Hp) (hg:GL h∧GS h):TF Tryz.prog 29 ⟨[.string s]⟩ h (scanV h.n (scanS s)) (scanH h (scanS s)):=by
 refine hg.1.tf fun hn=>?_
 refine hg.2.tf fun hn0=>?_
 refine TF.ends (fn:=Tryz.f29) (c:=(Tryz.f29.body.getD .skip)) (Q:=ScanE s h) Tryz.func29 (by kernel_rfl) Tryz.ntmps29 (by kernel_rfl) ?_ ?_
 ·conv=>arg 2;whnf
  repeat (first|refine Y7 ?_|refine Yo ?_|refine Y1e ?_|refine Y9 ?_|refine Y0 ?_|refine Y1x ?_|refine Y1 ?_)
  with_reducible apply W.condD
  exact rfl
  ·intro hbig
   repeat (first|refine Yw ?_|refine Y2 ?_|refine Ya ?_|refine Y0 ?_|refine Y13 ?_|refine Y1 ?_)
   refine endsK_ret _ (.cons (.tmp rfl) (.cons (.cellN rfl rfl rfl (Nat.le_of_ble_eq_true rfl)) .nil)) ⟨rfl,?_⟩
   have e:scanS s=.error (2,16384):=by unfold scanS;rw [if_pos (by omega)]
   rw [e];rfl
  ·intro hsm
   have hs:s.size≤1000000:=by omega
   repeat (first|refine Yw ?_|refine Y0 ?_|refine Y68 ?_|refine Y1 ?_)
   with_reducible apply W.ghost
   refine W.loop (X:=Nat × Nat × List TokS) (fun π x=>[(0,.string s),(3,.pointer (some ⟨π 0,0,none⟩)),(4,outV (π 1) x.2.2),(5,.int .i64 x.2.1)]) (fun _=>h) (fun π x=>[(0,some ⟨⟨[.int .i64 0,.int .i64 0]⟩,28⟩),(1,outB x.2.2)]) (fun x=>scanS s=scanF s x.1 x.2.1 x.2.2∧x.2.1≤s.size∧s.size - x.2.1 < x.1∧x.2.2.length≤x.2.1) (fun x=>x.1) [0,1] (s.size+1,0,[]) ⟨by unfold scanS;rw [if_neg (by omega)],by simp only;omega,by simp only;omega,by simp⟩ (by (refine FitL.mk ?_ ?_ ?_ ?_<;>(repeat' (first|exact trivial|exact rfl|apply And.intro));done)) ?_
   intro π x hI
   obtain ⟨n,p,out⟩:=x
   obtain ⟨q1,q2,q3,q4⟩:=hI
   dsimp only at q1 q2 q3 q4 ⊢
   cases n with
   | zero=>omega
   | succ n =>
    have hb:=blankS_le s q2
    have hst:scanF s (n+1) p out=_:=rfl
    rw [hst] at q1
    clear hst
    rw [scanF] at q1
    repeat (first|((with_reducible apply RS.callR true []);(iterate 3 exact rfl);exact fun H hH=>blank_tf _ _ (by omega) hs H (hg.1.of hn (hH.b rfl));exact Nm_free (by simp))|refine Y1o ?_|refine Y29 ?_|refine Y0 ?_|refine Y41 ?_|refine Y1 ?_)
    rcases hbl:blankS s p with ⟨q,ok⟩
    rw [hbl] at hb q1
    simp only at hb q1
    cases ok with
    | false =>
     repeat (first|refine Y7 ?_|refine Y2 ?_|refine Ya ?_|refine Y0 ?_|refine Y3j ?_|refine Y1 ?_|refine Y5 ?_)
     refine endsK_ret _ (.cons (.tmp rfl) (.cons (.cellN rfl rfl rfl (Nat.le_of_ble_eq_true rfl)) .nil)) ⟨rfl,?_⟩
     rw [q1];rfl
    | true =>
     simp only at q1
     repeat (first|refine Y7 ?_|refine Y2b ?_|refine Y1e ?_|refine Y0 ?_|refine Y1d ?_|refine Y1 ?_|refine Y3 ?_)
     with_reducible apply W.condD
     exact rfl
     ·intro hq
      rw [if_pos hq] at q1
      cases out with
      | nil =>
       repeat (first|refine Yi ?_|refine Y40 ?_|refine Y7 ?_|refine Y2 ?_|refine Ya ?_|refine Y0 ?_|refine Y3j ?_|refine Y1 ?_)
       refine endsK_ret _ (.cons (.tmp rfl) (.cons (.cellN rfl rfl rfl (Nat.le_of_ble_eq_true rfl)) .nil)) ⟨rfl,?_⟩
       rw [q1]
       exact ⟨3,Nat.lt_succ_self 3,rfl,rfl⟩
      | cons t l =>
       repeat (first|refine Yi ?_|refine Y35 ?_|refine Y7 ?_|refine Y2 ?_|refine Ya ?_|refine Y0 ?_|refine Y3j ?_|refine Y1 ?_)
       refine endsK_ret _ (.cons (.tmp rfl) (.cons (.cellN rfl rfl rfl (Nat.le_of_ble_eq_true rfl)) .nil)) ⟨rfl,?_⟩
       rw [q1]
       refine ⟨3,Nat.lt_succ_self 3,?_,?_⟩
       ·show some (Blk.mk ⟨toksC (t::l)++tokC (endTok q)⟩ 102)=_
        rw [toksC_snoc]
       ·rw [List.length_append];rfl
     ·intro hq
      rw [if_neg hq] at q1
      repeat (first|((with_reducible apply RS.callR true []);(iterate 3 exact rfl);exact fun H hH=>one_tf _ _ (by omega) hs H ⟨hg.1.of hn (hH.b rfl),hg.2.of hn0 (hH.b rfl)⟩;exact Nm_free (by simp))|refine Y1o ?_|refine Y29 ?_|refine Y2 ?_|refine Y9 ?_|refine Y0 ?_|refine Y1d ?_|refine Y1 ?_)
      rcases ho:oneS s q with ⟨t,ok⟩
      rw [ho] at q1
      have hat:=oneS_at (s:=s) (p:=q) (by omega)
      rw [ho] at hat
      simp only at hat
      cases ok with
      | false =>
       simp only at q1
       repeat (first|refine Y7 ?_|refine Y2 ?_|refine Ya ?_|refine Y0 ?_|refine Y3j ?_|refine Y1 ?_|refine Y5 ?_)
       refine endsK_ret _ (.cons (.tmp rfl) (.cons (.cellN rfl rfl rfl (Nat.le_of_ble_eq_true rfl)) .nil)) ⟨rfl,?_⟩
       rw [q1];rfl
      | true =>
       have hat:=(hat rfl).size
       simp only at q1
       have hwr:IntKind.i64.wrap ((q:Int)+(t.text.size:Int))=((q+t.text.size:Nat):Int):=by
        rw [wrap64_fit (by omega) (by omega)];omega
       cases out with
       | nil =>
        repeat (first|refine Yi ?_|refine Y40 ?_|refine Yu ?_|refine Y4q ?_|refine Y1e ?_|refine Yh ?_|refine Yg ?_|refine Y0 ?_|refine Y3v ?_|refine Y1 ?_|refine Y3 ?_)
        refine roundK_n (n,q+t.text.size,[t]) [0,4] rfl rfl ⟨q1,by simp only;omega,by simp only;omega,by simp;omega⟩ (by simp only;omega) (FitL.mk ⟨rfl,rfl,rfl,?_,trivial⟩ rfl ⟨rfl,rfl,trivial⟩ rfl)
        show some (Value.int .i64 (IntKind.i64.wrap ((q:Int)+(t.text.size:Int))))=_
        rw [hwr]
       | cons u l =>
        repeat (first|refine Yi ?_|refine Y35 ?_|refine Yu ?_|refine Y4q ?_|refine Y1e ?_|refine Yh ?_|refine Yg ?_|refine Y0 ?_|refine Y3v ?_|refine Y1 ?_|refine Y3 ?_)
        refine roundK_n (n,q+t.text.size,(u::l)++[t]) [0,4] rfl rfl ⟨q1,by simp only;omega,by simp only;omega,?_⟩ (by simp only;omega) (FitL.mk ⟨rfl,rfl,?_,?_,trivial⟩ rfl ⟨rfl,?_,trivial⟩ rfl)
        ·simp only [List.length_append,List.length_cons,List.length_nil] at q4 ⊢;omega
        ·show some (Value.slice _ ((u::l).length+1) _)=some (Value.slice _ ((u::l)++[t]).length _)
         rw [List.length_append];rfl
        ·show some (Value.int .i64 (IntKind.i64.wrap ((q:Int)+(t.text.size:Int))))=_
         rw [hwr]
        ·show some (Blk.mk ⟨toksC (u::l)++tokC t⟩ 102)=some (Blk.mk ⟨toksC ((u::l)++[t])⟩ 102)
         rw [toksC_snoc]
 ·intro vs h' w hq hold htf
  obtain ⟨hbase,hq⟩:=hq
  cases hr:scanS s with
  | error e =>
   obtain ⟨k,p⟩:=e
   rw [hr] at hq
   simp only at hq
   rw [hq] at htf
   have h1:=htf (by simp)
   exact h1.trunc (by simp [scanV]) (fun i hi=>hold i hi hbase)
  | ok l =>
   rw [hr] at hq
   obtain ⟨i,h1,h2,h3⟩:=hq
   rw [h3] at htf
   have hlo:=w.lo i h1
   have hhi:=w.hi i h1
   have hm:=SH.m_loc w h1
   rw [h2] at hm
   rw [hbase] at hlo
   have hcell:∀ v∈toksC l,bnd 0 v:=by
    intro v hv
    unfold toksC at hv
    rw [List.mem_flatMap] at hv
    obtain ⟨t,_,hv⟩:=hv
    simp only [tokC,List.mem_cons,List.not_mem_nil,or_false] at hv
    rcases hv with rfl|rfl|rfl|rfl|rfl|rfl<;>simp
   refine TF.leave1 (j:=h'.π i) (htf ?_) hlo hm (fun k hk=>hold k hk hbase) (fun v hv=>bnd_mono (Nat.zero_le _) v (hcell v (by simpa using hv))) ?_ ?_
   ·have hden:h'.den.n=h'.π h'.k:=rfl
    simp [hden];omega
   ·simp [scanV]
   ·intro ρ ρ2 _ e1 e2
    simp [scanV,renAddr,renCap,e1,e2]
attribute [local irreducible] WR
def ScanQ (L:List TokS) (h:Hp) (v:Value) (h':Hp):Prop:=∃ tb cap,v=.tuple ⟨[.slice (some ⟨tb,0,none⟩) L.length cap,.agg ⟨[.int .i64 0,.int .i64 0]⟩]⟩∧h'.m tb=some ⟨⟨toksC L⟩,102⟩∧Old h h'
def ParseQ (r:Except (Nat × Nat) UnitS) (v:Value) (h':Hp):Prop:=match r with
 | .error e=>v=.tuple ⟨[.pointer none,.agg ⟨[.int .i64 e.1,.int .i64 e.2]⟩]⟩
 | .ok u=>∃ ub gb gs fb fs,v=.tuple ⟨[ptrC ub,.agg ⟨[.int .i64 0,.int .i64 0]⟩]⟩∧UnitAt h' ub u gb gs fb fs
theorem fail0_fk {st:PS} {k p:Nat} (hk:k≠0):(st.fail0 k p).fk≠0:=by
 unfold PS.fail0
 split
 ·exact hk
 ·assumption
theorem outer_len {T:Nat→TokS} {n:Nat} {u u':UnitS} {st t:PS} (h:outerS T n u st=some (u',t)) (hl:u.globals.length≤60∧u.funcs.length≤60) (ht:t.fk=0):u'.globals.length≤60∧u'.funcs.length≤60:=by
 rcases outer_iff h with ⟨_,rfl,_⟩|⟨_,_,s,u1,d,u2,_,_,⟨_,_,f,u3,_,rfl,e⟩|⟨_,u3,u4,_,_,rfl,e⟩⟩
 ·exact hl
 ·by_cases h6:60 < u.funcs.length+1
  ·rw [if_pos h6] at e;rw [e] at ht;exact absurd ht (fail0_fk (by decide))
  ·refine ⟨hl.1,?_⟩
   simp;omega
 ·by_cases h6:60 < u.globals.length+1
  ·rw [if_pos h6] at e;rw [e] at ht;exact absurd ht (fail0_fk (by decide))
  ·refine ⟨?_,hl.2⟩
   simp;omega
theorem outers_iff {T:Nat→TokS} {m n:Nat} {u u':UnitS} {st t:PS} (h:outersS T m (n+1) u st=some (u',t)):((st.fk≠0∨(st.tok T).kind=0)∧u'=u∧t=st)∨(st.fk=0∧(st.tok T).kind≠0∧∃ u1 v1,outerS T m u st=some (u1,v1)∧outersS T m n u1 v1=some (u',t)):=by
 rw [outersS] at h
 split at h
 ·rename_i hc
  simp only [Option.some.injEq,Prod.mk.injEq] at h
  exact .inl ⟨hc,h.1.symm,h.2.symm⟩
 ·rename_i hc
  obtain ⟨⟨u1,v1⟩,h1,h2⟩:=bind_some' h
  exact .inr ⟨Classical.byContradiction fun e=>hc (.inl e),fun e=>hc (.inr e),u1,v1,h1,h2⟩
section
variable {L:List TokS} {h:Hp}
set_option maxHeartbeats 4000000 in
theorem parse_ok (hL:ToksOK L) {src:ByteArray} {n:Nat} {r:Except (Nat × Nat) UnitS} (hs:parseU n (tokN L)=some r) (hscan:∀ B,(∀ i b,h.m i=some b→B.m i=some b)→EX Tryz.prog 29 [.string src] B (ScanQ L B)):EX Tryz.prog 16 [.string src] h (fun v h'=>ParseQ r v h'∧KeptE h h'):=by
 unfold parseU at hs
 obtain ⟨⟨u,t⟩,h1,h2⟩:=Option.map_eq_some_iff.1 hs
 clear hs
 refine EX.intro (fn:=Tryz.f16) (c:=(Tryz.f16.body.getD .skip)) Tryz.func16 (by kernel_rfl) Tryz.ntmps16 (by kernel_rfl) fun π s0=>?_
 conv=>arg 2;whnf
 ((with_reducible apply W.seq);repeat (first|refine Yw ?_|refine Y9 ?_|refine Y0 ?_|refine Y1 ?_|refine Ym ?_))
 ((with_reducible apply W.seq);repeat (first|((with_reducible apply (RS.callEx (g0:=29)));(iterate 3 exact rfl);intro B1 hB1;refine ⟨_,hscan B1 hB1.up,?_⟩;rintro v H1 π1 ⟨tb,cap,rfl,htb,o1⟩ sp1 hle1;have h30:=hB1.loc 0 (Nat.lt_succ_self 0);have hrb:=(o1.2 _ (hB1.dom _ _ h30)).trans h30;have hrw0:rwM≤π 0:=Nat.le_trans hB1.rw (hB1.lo 0 (Nat.lt_succ_self 0));have hrn0:h.n≤π 0:=hB1.lo 0 (Nat.lt_succ_self 0);have hbd:∀ i b,h.m i=some b→i < h.n:=hB1.bdom;have hk1:KeptE h H1:=fun i c hi _=>by rw [o1.2 i (hB1.dom _ _ (hB1.up _ _ hi))];exact hB1.up _ _ hi)|refine Y7 ?_|refine Y29 ?_|refine Y2 ?_|refine Y9 ?_|refine Y0 ?_|refine Y1 ?_|refine Ym ?_))
 ((with_reducible apply W.seq);repeat (fail))
 ((with_reducible apply W.seq);repeat (first|refine Yo ?_|refine Y65 ?_|refine Yh ?_|refine Y0 ?_|refine Y1 ?_|refine Y1h ?_|refine Y3 ?_))
 ((with_reducible apply W.seq);repeat (first|refine Y3a ?_|refine Ya ?_|refine Y0 ?_|refine Y1 ?_|refine Ym ?_))
 ((with_reducible apply W.seq);repeat (first|((with_reducible first|apply RS.assign|apply RS.box);iterate 3 exact rfl)|refine Ya ?_|refine Y0 ?_|refine Y1 ?_|refine Ym ?_))
 refine W.absorbX fun G π0 a0=>?_
 have htr:=sp1.dom _ _ htb
 have hkG:KeptE h G:=hk1.trans fun i c hi _=>a0.up i c hi
 clear hk1
 have w:NowU L tb cap (π1 1) G G startP (π1 2) ⟨[],[]⟩ 0 [] 0 [] :=
  ⟨⟨a0.up _ _ htb,a0.loc 1 (Nat.le_of_ble_eq_true rfl),⟨Nat.zero_le _,Nat.zero_le _,Nat.zero_le _⟩,Nat.le_trans a0.rw (a0.lo 1 (Nat.le_of_ble_eq_true rfl)),Nat.ne_of_lt (Nat.lt_of_lt_of_le htr (a0.lo 1 (Nat.le_of_ble_eq_true rfl)))⟩,a0.dom,
   ⟨a0.loc 2 (Nat.le_of_ble_eq_true rfl),rfl,rfl,fun e=>absurd rfl e,fun e=>absurd rfl e,fun c hc=>by simp at hc,fun c hc=>by simp at hc,fun i c f hc=>by simp at hc,fun i c f hc=>by simp at hc,Nat.le_trans a0.rw (a0.lo 2 (Nat.le_of_ble_eq_true rfl)),fun e=>absurd rfl e,fun e=>absurd rfl e⟩,fun _ _ h _=>h⟩
 have hrb0:G.m (π 0)=some ⟨⟨[.int .i64 0,.int .i64 0]⟩,28⟩:=a0.up _ _ hrb
 generalize π1 1=pb at *
 generalize π1 2=ub at *
 generalize π 0=rb at *
 with_reducible apply W.seq
 with_reducible apply W.block
 refine W.loopN (X:=Nat × UnitS × PS × Nat × List (List Value) × Nat × List (List Value)) (fun _=>[(2,.pointer none),(3,ptrC rb),(6,ptrC pb),(7,ptrC ub)]) (fun x B=>NowU L tb cap pb G B x.2.2.1 ub x.2.1 x.2.2.2.1 x.2.2.2.2.1 x.2.2.2.2.2.1 x.2.2.2.2.2.2∧(x.2.2.1.fk=0→x.2.1.globals.length≤60∧x.2.1.funcs.length≤60)∧outersS (tokN L) n x.1 x.2.1 x.2.2.1=some (u,t)) (fun x=>x.1)
  (fun B' a=>⟨(n,⟨[],[]⟩,startP,0,[],0,[]),?_,w.ends a,fun _=>⟨Nat.zero_le _,Nat.zero_le _⟩,h1⟩) ?_
 ·(repeat' (first|exact trivial|exact rfl|apply And.intro));done
 clear w h1
 rintro ⟨m,u1,st',gb,gs,fb,fs⟩ B π3 sB ⟨w,hle,h1⟩
 dsimp only at w hle h1 ⊢
 have hrb:=w.k _ _ hrb0 rfl
 cases m with
 | zero=>rw [outersS] at h1;cases h1
 | succ m =>
  rcases outers_iff h1 with ⟨hc,e1,e2⟩|⟨hf,hk,u2,v2,h3,h4⟩
  ·by_cases hf:st'.fk=0
   ·obtain ⟨rfl,rfl⟩:u=u1∧t=st':=⟨e1,e2⟩
    have hk0:(t.tok (tokN L)).kind=0:=by
     rcases hc with h|h
     ·exact absurd hf h
     ·exact h
    rw [if_neg (fun h=>h hf)] at h2
    subst h2
    have hrb2:B.m rb=some ⟨⟨[.int .i64 0,.int .i64 0]⟩,28⟩:=w.k _ _ hrb0 rfl
    have hrw:rwM≤rb:=hrw0
    repeat (first|refine Y5j ?_|refine Y67 ?_|refine Y2u ?_|((with_reducible apply (RS.storeB (cs':=[.int .i64 0,.int .i64 0])));(iterate 3 exact rfl);exact hrb2;exact w.d _ _ hrb2;exact hrw;exact Nat.le_of_ble_eq_true rfl;iterate 3 exact rfl)|refine Y1o ?_|refine Yd ?_|refine Y4 ?_|refine Ya ?_|refine Y0 ?_|refine Y4c ?_|refine Y1 ?_|refine Y3 ?_|refine Yn ?_)
    have hst:∀ i c,B.m i=some c→(B.set rb ⟨⟨[.int .i64 0,.int .i64 0]⟩,28⟩).m i=some c:=fun i c hi=>by
     show (if i=rb then _ else B.m i)=some c
     by_cases hir:i=rb
     ·subst hir;rw [if_pos rfl,← hi,hrb2]
     ·rw [if_neg hir,hi]
    refine endsK_ret _ (.cons (.tmp rfl) (.cons (.baseN (vs:=[.int .i64 0,.int .i64 0]) rfl (by show (if rb=rb then _ else _)=_;rw [if_pos rfl]) (Nat.le_of_ble_eq_true rfl) rfl) .nil)) fun B' a=>⟨⟨ub,gb,gs,fb,fs,rfl,w.u.kept fun i c hi _=>a.up i c (hst i c hi)⟩,fun i c hi hc=>a.up i c (hst i c (w.k i c (hkG i c hi hc) hc))⟩
   ·obtain ⟨rfl,rfl⟩:u=u1∧t=st':=⟨e1,e2⟩
    rw [if_pos hf] at h2
    subst h2
    have hrb2:B.m rb=some ⟨⟨[.int .i64 0,.int .i64 0]⟩,28⟩:=w.k _ _ hrb0 rfl
    have hrw:rwM≤rb:=hrw0
    repeat (first|((with_reducible apply (RS.callA (g0:=30)));(iterate 3 exact rfl);exact fun B' hB'=>ok_tf (w.p.absd w.d hB') (decide_eq_false hf))|((with_reducible apply (RS.loadNB (vs:=[.int .i64 t.fk,.int .i64 t.fa])));(iterate 3 exact rfl);exact w.p.par;exact w.d _ _ w.p.par;exact Nat.le_of_ble_eq_true rfl;exact rfl)|((with_reducible apply (RS.storeB (cs':=[.int .i64 t.fk,.int .i64 t.fa])));(iterate 3 exact rfl);exact hrb2;exact w.d _ _ hrb2;exact hrw;exact Nat.le_of_ble_eq_true rfl;iterate 3 exact rfl)|refine Yl ?_|refine Yc ?_|refine Yk ?_|refine Y0 ?_|refine Y62 ?_|refine Y1 ?_|refine Y5 ?_|refine Y3 ?_|refine Yn ?_)
    refine endsK_ret _ (.cons (.tmp rfl) (.cons (.baseN (vs:=[.int .i64 t.fk,.int .i64 t.fa]) rfl (by show (if rb=rb then _ else _)=_;rw [if_pos rfl]) (Nat.le_of_ble_eq_true rfl) rfl) .nil)) fun B' a=>⟨rfl,fun i c hi hc=>a.up i c ?_⟩
    have hir:i≠rb:=fun e=>by have:=hbd i c hi;omega
    show (if i=rb then _ else B.m i)=some c
    rw [if_neg hir];exact w.k i c (hkG i c hi hc) hc
  ·have hgl:gs.length≤60:=by rw [w.u.gl];exact (hle hf).1
   have hfl:fs.length≤60:=by rw [w.u.fl];exact (hle hf).2
   repeat (first|refine Y5j ?_|refine Y67 ?_|refine Y2u ?_|((with_reducible apply (RS.callEx (g0:=32)));(iterate 3 exact rfl);intro B4 hB4;refine ⟨_,outer_ok hL h3 (⟨(w.ends hB4).p,(w.ends hB4).d,(w.ends hB4).u,fun _ _ h _=>h⟩:NowU L tb cap pb B4 B4 st' ub u1 gb gs fb fs) hgl hfl,?_⟩;rintro v H4 π4 ⟨rfl,gb',gs',fb',fs',w4⟩ sp4 hle4;have w:NowU L tb cap pb G H4 v2 ub u2 gb' gs' fb' fs':=⟨w4.p,w4.d,w4.u,(w.ends hB4).k.trans w4.k⟩)|refine Y11 ?_|refine Yd ?_|refine Y6 ?_|refine Y0 ?_|refine Yt ?_|refine Y1 ?_|refine Y5 ?_)
   refine roundN_n rfl fun B' a=>⟨(m,u2,v2,gb',gs',fb',fs'),?_,⟨w.ends a,fun hc=>outer_len h3 (hle hf) hc,h4⟩,Nat.lt_succ_self m⟩
   (repeat' (first|exact trivial|exact rfl|apply And.intro));done
end
def G0 (h:Hp):Prop:=(∃ m,h.m 1=some ⟨⟨[.int .i64 m]⟩,3⟩)∧h.m 0=some ⟨⟨spaceV⟩,249⟩
theorem G0.up {h H:Hp} (g:G0 h) (hu:∀ i c,h.m i=some c→H.m i=some c):G0 H:=by
 obtain ⟨⟨m,h1⟩,h2⟩:=g
 exact ⟨⟨m,hu _ _ h1⟩,hu _ _ h2⟩
theorem G0.both {h:Hp} (g:G0 h):GL h∧GS h:=by
 obtain ⟨⟨m,h1⟩,h2⟩:=g
 exact ⟨⟨m,_,h1⟩,⟨_,h2⟩⟩
theorem scanL_len:∀ {n p:Nat} {l:List UInt8} {ts:List TokS},scanL n p l=some ts→0 < ts.length∧ts.length≤n:=by
 intro n
 induction n with
 | zero=>intro p l ts h;cases l<;>cases h
 | succ n ih =>
  intro p l ts h
  have key:∀ {q:Nat} {r:List UInt8} {t:TokS},(scanL n q r).map (fun x=>t::x)=some ts→0 < ts.length∧ts.length≤n+1:=by
   intro q r t he
   obtain ⟨x,hx,rfl⟩:=Option.map_eq_some_iff.1 he
   have:=ih hx
   simp only [List.length_cons];omega
  cases l with
  | nil=>simp only [scanL,Option.some.injEq] at h;subst h;simp
  | cons c r =>
   unfold scanL at h
   split at h
   ·have:=ih h;omega
   split at h
   ·cases h
   split at h
   ·split at h
    ·exact key h
    ·cases h
   split at h
   ·split at h
    ·exact key h
    ·cases h
   split at h
   ·cases h
   split at h
   ·exact key h
   ·cases h
theorem parseT_iff {l:List UInt8} {r:Except (Nat × Nat) UnitS} (h:parseT l=some r):∃ L,scanL 1000 0 l=some L∧ToksOK L∧parseU 1000 (tokN L)=some r:=by
 unfold parseT at h
 obtain ⟨L,h1,h2⟩:=Option.bind_eq_some_iff.1 h
 obtain ⟨k1,k2⟩:=scanL_len h1
 rw [parseL_eq (by omega)] at h2
 exact ⟨L,h1,⟨k1,by omega⟩,h2⟩
theorem scan_ex {l:List UInt8} {L:List TokS} (hl:l.length≤16384) (h1:scanL 1000 0 l=some L) {B:Hp} (g:G0 B) (s:Sat Tryz.prog B):EX Tryz.prog 29 [.string ⟨⟨l⟩⟩] B (ScanQ L B):=by
 have ht:=scan_tf ⟨⟨l⟩⟩ B g.both
 rw [scan_list hl h1] at ht
 refine ht.ex.mono ?_
 rintro v h' _ ⟨rfl,rfl⟩
 refine ⟨B.n,_,rfl,?_,Nat.le_succ _,fun i hi=>?_⟩
 ·show (if B.n=B.n then _ else _)=_
  rw [if_pos rfl]
 ·show (if i=B.n then _ else _)=_
  rw [if_neg (by omega)]
theorem parse_ex {l:List UInt8} {r:Except (Nat × Nat) UnitS} (hl:l.length≤16384) (h:parseT l=some r) {B:Hp} (g:G0 B):EX Tryz.prog 16 [.string ⟨⟨l⟩⟩] B (fun v h'=>ParseQ r v h'∧Old B h'):=by
 intro s hb
 obtain ⟨L,h1,h2,h3⟩:=parseT_iff h
 have hdom:∀ i b,B.m i=some b→i < B.n:=by obtain ⟨ρ,W,ho⟩:=s;exact ho.lt
 let k:Nat→Bool:=fun i=>decide (i < B.n) && !(i == 1 || i == 0)
 have hg:G0 (B.hide k):=by
  obtain ⟨⟨m,h4⟩,h5⟩:=g
  exact ⟨⟨m,hide_some.2 ⟨by simp [k],h4⟩⟩,hide_some.2 ⟨by simp [k],h5⟩⟩
 have hp:=parse_ok (h:=B.hide k) (src:=⟨⟨l⟩⟩) h2 h3 fun B' hu s hb=>scan_ex hl h1 (hg.up hu) s s hb
 refine (EX.mono (EX.frame k (fun i hi=>by simp [k] at hi;exact hi.1) hp) ?_) s hb
 rintro v h' s ⟨h6,hq,rfl,hn,hup⟩
 obtain ⟨q1,q2⟩:=hq
 refine ⟨?_,hn,fun i hi=>?_⟩
 ·cases r with
  | error e=>exact q1
  | ok u =>
   obtain ⟨ub,gb,gs,fb,fs,e1,e2⟩:=q1
   exact ⟨ub,gb,gs,fb,fs,e1,e2.kept fun i c hc _=>hup i c hc⟩
 ·cases hk:k i with
  | true=>exact back_hid hk
  | false =>
   have hc:i=1∨i=0:=by
    simp only [k,Bool.and_eq_false_iff,decide_eq_false_iff_not,Bool.not_eq_false',Bool.or_eq_true,beq_iff_eq] at hk
    rcases hk with h|h
    ·exact absurd hi h
    ·exact h
   obtain ⟨⟨m,h4⟩,h5⟩:=hg
   rw [back_not hk]
   rcases hc with rfl|rfl
   ·rw [q2 _ _ h4 rfl];exact (hide_some.1 h4).2.symm
   ·rw [q2 _ _ h5 rfl];exact (hide_some.1 h5).2.symm
end Go.Proofs.YtgpigfcagppohaaGreatDoor
