/-
  What the functions that the law reaches compute,told by plain data;it holds of programs that pass the check of right form and are light.
-/
import Derived.Test.YtgpigfcagppohaaGreatDoorR18
import Derived.Test.YtgpigfcagppohaaGreatDoorR29
import Derived.Test.YtgpigfcagppohaaGreatDoorS2
set_option linter.unusedVariables false
set_option linter.unusedSimpArgs false
namespace Go.Proofs.YtgpigfcagppohaaGreatDoor
open Go.AH
attribute [local irreducible] W RS WR
theorem UnitAt.upX {h h':Hp} {ub:Nat} {u:UnitS} {gb:Nat} {gs:List (List Value)} {fb:Nat} {fs:List (List Value)} (w:UnitAt h ub u gb gs fb fs) (hu:KeptX h h'):UnitAt h' ub u gb gs fb fs :=
 ⟨hu _ _ w.m rfl,w.gl,w.fl,fun e=>hu _ _ (w.g e) rfl,fun e=>hu _ _ (w.f e) rfl,w.gs12,w.fs13,fun i c f h1 h2=>by
  obtain ⟨A,k,b,d,hnm,h3,h4⟩:=w.has i c f h1 h2
  exact ⟨A,k,b,d,hnm,h3,h4.upX hu⟩,fun i c d h1 h2=>by
  obtain ⟨A,k,h3,h4⟩:=w.hasG i c d h1 h2
  exact ⟨A,k,h3,h4.upX hu rfl⟩,w.uw,w.gw,w.fw⟩
theorem ChkW.pushG {B B':Hp} {q:Pl} {F Fs:Value} {mn:Int} {v:CS} (w:ChkW B q F Fs mn v) {gb':Nat} {g:GlS} {row:List Value} {gs:List (List Value)} (up:∀ i c,i≠q.pb→(v.gl≠[]→i≠q.gb)→B.m i=some c→B'.m i=some c)
 (hp:B'.m q.pb=some ⟨⟨prC { q with gb:=gb' } Fs mn { v with gl:=v.gl++[g] }⟩,53⟩) (hgs:v.gl≠[]→RowsAt B q.gb v.gl 74 GlRow 15 gs) (hg0:v.gl=[]→gs=[]) (hm:B'.m gb'=some ⟨⟨(gs++[row]).flatten⟩,74⟩) (hr:KeptX B B'→GlRow B' g row) (hrl:row.length=15) (hlw:rwM≤gb') (hll:v.gl.length < 100) :
 ChkW B' { q with gb:=gb' } F Fs mn { v with gl:=v.gl++[g] }∧KeptX B B':=by
 have up2:∀ i c,B.m i=some c→Nat.beq c.elem 53=false→Nat.beq c.elem 74=false→B'.m i=some c:=fun i c hi h1 h2 =>
  up i c (elem_ne hi w.p h1) (fun hne=>by obtain ⟨gs,r⟩:=w.g hne;exact elem_ne hi r.m h2) hi
 have kx:KeptX B B':=fun i c hi hk=>up2 i c hi (by
  cases h:Nat.beq c.elem 53 with
  | false=>rfl
  | true=>rw [Nat.eq_of_beq_eq_true h] at hk;exact absurd hk (by decide)) (by
  cases h:Nat.beq c.elem 74 with
  | false=>rfl
  | true=>rw [Nat.eq_of_beq_eq_true h] at hk;exact absurd hk (by decide))
 refine ⟨⟨up2 _ _ w.c rfl rfl,hp,up2 _ _ w.t rfl rfl,fun _=>⟨gs++[row],?_⟩,?_,w.cw,w.pw,w.nl,by simp;omega⟩,kx⟩
 ·have hlen:gs.length=v.gl.length:=by
   by_cases h:v.gl=[]
   ·rw [hg0 h,h];rfl
   ·exact (hgs h).len
  refine ⟨hm,by simp [hlen],fun c hc=>?_,fun i c d hc hd=>?_,hlw⟩
  ·rcases List.mem_append.1 hc with e|e
   ·by_cases h:v.gl=[]
    ·rw [hg0 h] at e;cases e
    ·exact (hgs h).wid c e
   ·rw [List.mem_singleton] at e;rw [e];exact hrl
  ·dsimp only at hd
   by_cases hi:i < gs.length
   ·rw [List.getElem?_append_left hi] at hc
    rw [List.getElem?_append_left (by rw [← hlen];exact hi)] at hd
    have hne:v.gl≠[]:=fun e=>by rw [e] at hd;simp at hd
    exact ((hgs hne).row i c d hc hd).up kx
   ·have hlt:=(List.getElem?_eq_some_iff.1 hc).1
    have hi:i=gs.length:=by simp at hlt;omega
    subst hi
    rw [List.getElem?_append_right (Nat.le_refl _)] at hc
    rw [List.getElem?_append_right (by rw [hlen];exact Nat.le_refl _)] at hd
    simp [hlen] at hc hd
    subst hc;subst hd
    exact hr kx
 ·rcases w.n with h|⟨b,cs,st,h1,h2,h3,h4,h5⟩
  ·exact .inl h
  ·exact .inr ⟨b,cs,st,h1,h2,up2 _ _ h3 rfl rfl,h4,h5⟩
theorem ChkW.rep {B B':Hp} {q:Pl} {F Fs Fs':Value} {mn mn':Int} {v v':CS} (w:ChkW B q F Fs mn v) (hk:∀ i c,i≠q.pb→B.m i=some c→B'.m i=some c) (hp:B'.m q.pb=some ⟨⟨prC q Fs' mn' v'⟩,53⟩) (hc:ckC q F v'=ckC q F v) (e1:v'.gl=v.gl) (e2:v'.nm=v.nm):ChkW B' q F Fs' mn' v'∧KeptX B B':=by
 have up2:∀ i b,B.m i=some b→Nat.beq b.elem 53=false→B'.m i=some b:=fun i b hi he=>hk i b (elem_ne hi w.p he) hi
 have kx:KeptX B B':=fun i b hi hkk=>up2 i b hi (by
  cases h:Nat.beq b.elem 53 with
  | false=>rfl
  | true=>rw [Nat.eq_of_beq_eq_true h] at hkk;exact absurd hkk (by decide))
 refine ⟨⟨?_,hp,up2 _ _ w.t rfl,fun hne=>?_,?_,w.cw,w.pw,by rw [e2];exact w.nl,by rw [e1];exact w.gn⟩,kx⟩
 ·have:=up2 _ _ w.c rfl
  unfold ckB at this ⊢
  rw [hc];exact this
 ·rw [e1] at hne
  obtain ⟨gs,r⟩:=w.g hne
  refine ⟨gs,?_⟩
  rw [e1]
  exact r.up ((up2 _ _ r.m rfl).trans r.m.symm) fun d c=>GlRow.up kx
 ·rw [e2]
  rcases w.n with h|⟨b,cs,st,h1,h2,h3,h4,h5⟩
  ·exact .inl h
  ·exact .inr ⟨b,cs,st,h1,h2,up2 _ _ h3 rfl,h4,h5⟩
section
variable {h:Hp} {q:Pl} {st st':CS} {F Fs:Value} {mn:Int} {u:UnitS} {ug uf:Nat} {gs fs:List (List Value)}
theorem taken_tf (w:ChkW h q F Fs mn st) (hU:UnitAt h q.ub u ug gs uf fs) {s:ByteArray} {n:Nat} (hn:n≤u.globals.length) (hno:∀ d∈u.globals.take n,eqB d.name s=false) (ho:eqB s bOut=false) (hnb:n≤1000):TF Tryz.prog 36 ⟨[ptrC q.cb,.string s,.int .i64 n,.int .i64 0]⟩ h (.bool false) h:=by
 refine TF.exact (fn:=Tryz.f36) (c:=(Tryz.f36.body.getD .skip)) Tryz.func36 (by kernel_rfl) Tryz.ntmps36 (by kernel_rfl) (fun s0=>old0 s0 (by simp)) fun π s0=>?_
 conv=>arg 2;whnf
 have hgl:=hU.gl
 have ho:eqB s ⟨#[111,117,116]⟩=false:=ho
 by_cases hg0:gs=[]
 ·obtain rfl:n=0:=by rw [hg0] at hgl;simp at hgl;omega
  have hsn:some (Value.slice (rA ug gs) gs.length (rK 12 gs))=some (.slice none 0 0):=by rw [hg0];rfl
  have wB:=w
  have UB:=hU
  have sB:=s0
  by_cases hf0:fs=[]
  ·have hfn:some (Value.slice (rA uf fs) fs.length (rK 13 fs))=some (.slice none 0 0):=by rw [hf0];rfl
   repeat (first|refine Y2c ?_|((with_reducible apply RS.sliceNil);(iterate 2 exact rfl);first|exact hsn;exact rfl;exact ⟨_,_,rfl,rfl⟩|exact hfn;exact rfl;exact ⟨_,_,rfl,rfl⟩)|refine Y5g ?_|refine Y1l ?_|refine Y23 ?_|refine Ye ?_|refine Y1c ?_|refine Y4 ?_|refine Y0 ?_|refine Y4s ?_|refine Y1 ?_|refine Y3 ?_|refine Yn ?_)
   exact endsK_ret _ (.cons (.tmp rfl) .nil) fun B' a=>⟨rfl,a.up⟩
  ·have hfw:some (Value.slice (rA uf fs) fs.length (rK 13 fs))=some (.slice (some ⟨uf,0,none⟩) fs.length (capOf 13)):=by unfold rA rK;rw [if_neg hf0,if_neg hf0]
   repeat (first|refine Y2c ?_|refine Y6n ?_|refine Y34 ?_|refine Y5g ?_|refine Y1l ?_|refine Y23 ?_|refine Ye ?_|refine Y1c ?_|refine Y4 ?_|refine Y0 ?_|refine Y4s ?_|refine Y1 ?_|refine Y3 ?_|refine Yn ?_)
   exact endsK_ret _ (.cons (.tmp rfl) .nil) fun B' a=>⟨rfl,a.up⟩
 ·have hsw:some (Value.slice (rA ug gs) gs.length (rK 12 gs))=some (.slice (some ⟨ug,0,none⟩) gs.length (capOf 12)):=by unfold rA rK;rw [if_neg hg0,if_neg hg0]
  have hgm:=hU.g hg0
  have hgn:n * 12≤gs.flatten.length:=by rw [flat_len hU.gs12,hgl];exact Nat.mul_le_mul_right _ hn
  ((with_reducible apply W.seq);repeat (first|refine Yw ?_|refine Y0 ?_|refine Y1 ?_|refine Ym ?_))
  ((with_reducible apply W.seq);repeat (fail))
  ((with_reducible apply W.seq);repeat (first|refine Y39 ?_|((with_reducible apply (RS.sliceW (r:=ug) (cs:=gs.flatten)));(iterate 2 exact rfl);exact hsw;(iterate 2 exact rfl);exact hgm;exact s0.dom _ _ hgm;exact hU.gw hg0;exact hgn)|refine Yy ?_|refine Y0 ?_|refine Y1 ?_|refine Y24 ?_))
  refine W.loopN (X:=Nat) (fun i=>[(0,ptrC q.cb),(1,.string s),(2,.int .i64 n),(3,.int .i64 0),(8,.bool false),(21,.slice (some ⟨ug,0,none⟩) n (capOf 12)),(22,.int .i64 n),(23,.int .i64 i)]) (fun i B=>i≤n∧∀ x b,h.m x=some b→B.m x=some b) (fun i=>n - i)
   (fun B' a=>⟨0,?_,Nat.zero_le _,a.up⟩) ?_
  ·(repeat' (first|exact trivial|exact rfl|apply And.intro));done
  rintro i B π1 sB ⟨hle,hup⟩
  dsimp only at hle hup ⊢
  have wB:=w.upA hup
  have UB:=hU.upX (KeptX.of hup)
  by_cases hi:i < n
  ·obtain ⟨d,hd⟩:∃ d,u.globals[i]?=some d:=⟨_,List.getElem?_eq_getElem (by omega)⟩
   obtain ⟨c,hc⟩:∃ c,gs[i]?=some c:=⟨_,List.getElem?_eq_getElem (by omega)⟩
   obtain ⟨A,k,rfl,_⟩:=hU.hasG i c d hc hd
   have hne:eqB d.name s=false:=hno d (List.mem_of_getElem? (show (u.globals.take n)[i]?=some d by rw [List.getElem?_take,if_pos hi];exact hd))
   obtain ⟨htk,hln⟩:=flatT hU.gs12 hc (o:=0) (n:=12) (by omega)
   have hgB:=UB.g hg0
   repeat (first|refine Ye ?_|refine Y4o ?_|refine Y4x ?_|refine Y1r ?_|refine Y6 ?_|refine Yp ?_|refine Yh ?_|refine Y2 ?_|refine Y9 ?_|refine Y0 ?_|refine Yt ?_|refine Y1 ?_|refine Y5 ?_|refine Y3 ?_)
   refine roundN_n rfl fun B' a=>⟨i+1,?_,⟨hi,fun x b hb=>a.up _ _ (hup _ _ hb)⟩,by omega⟩
   (repeat' (first|exact trivial|exact rfl|apply And.intro));done
  ·obtain rfl:i=n:=by omega
   by_cases hf0:fs=[]
   ·have hfn:some (Value.slice (rA uf fs) fs.length (rK 13 fs))=some (.slice none 0 0):=by rw [hf0];rfl
    repeat (first|refine Y2c ?_|((with_reducible apply RS.sliceNil);(iterate 2 exact rfl);exact hfn;exact rfl;exact ⟨_,_,rfl,rfl⟩)|refine Y1l ?_|refine Y23 ?_|refine Ye ?_|refine Y5g ?_|refine Y1c ?_|refine Y4 ?_|refine Y0 ?_|refine Y63 ?_|refine Y1 ?_|refine Y3 ?_|refine Yn ?_)
    exact endsK_ret _ (.cons (.tmp rfl) .nil) fun B' a=>⟨rfl,fun x b hb=>a.up _ _ (hup _ _ hb)⟩
   ·have hfw:some (Value.slice (rA uf fs) fs.length (rK 13 fs))=some (.slice (some ⟨uf,0,none⟩) fs.length (capOf 13)):=by unfold rA rK;rw [if_neg hf0,if_neg hf0]
    repeat (first|refine Y2c ?_|refine Y34 ?_|refine Y1l ?_|refine Y23 ?_|refine Ye ?_|refine Y5g ?_|refine Y1c ?_|refine Y4 ?_|refine Y0 ?_|refine Y63 ?_|refine Y1 ?_|refine Y3 ?_|refine Yn ?_)
    exact endsK_ret _ (.cons (.tmp rfl) .nil) fun B' a=>⟨rfl,fun x b hb=>a.up _ _ (hup _ _ hb)⟩
theorem gl_names {gl:List GlS} {ds:List DeclS} (h:gl.map GlS.name=ds.map DeclS.name) {s:ByteArray} (hno:(gl.any fun g=>eqB g.name s)=false):∀ d∈ds,eqB d.name s=false:=fun d hd=>by
 have e:(gl.map GlS.name).any (fun n=>eqB n s)=(ds.map DeclS.name).any (fun n=>eqB n s):=by rw [h]
 rw [List.any_map,List.any_map] at e
 have e2:(ds.any ((fun n=>eqB n s) ∘ DeclS.name))=false:=by rw [← e];exact hno
 rw [List.any_eq_false] at e2
 have:=e2 d hd
 simpa using this
theorem ChkW.failed {B:Hp} (w:ChkW B q F Fs mn st) (hd:∀ i b,B.m i=some b→i < B.n) (k p:Nat):ChkW (B.set q.cb (ckB q F (st.fail k p))) q F Fs mn (st.fail k p):=by
 obtain ⟨f1,f2,f3,f4,f5,f6⟩:=st.fail_nm k p
 exact w.off hd (OffP.set B _) (if_pos rfl) f2 f1 f3
theorem ck_keep {B:Hp} (w:ChkW B q F Fs mn st) {i:Nat} {c b:Blk} (hi:B.m i=some c) (hk:keptC c.elem=true):(B.set q.cb b).m i=some c:=(if_neg (fun e=>by subst e;rw [w.c] at hi;cases hi;exact absurd (show keptC 66=true from hk) (by decide))).trans hi
def GlobQ (q:Pl) (h:Hp) (F Fs:Value) (mn:Int) (st':CS) (v:Value) (h':Hp):Prop:=v=.tuple ⟨[]⟩∧∃ gb,ChkW h' { q with gb:=gb } F Fs mn st'∧KeptX h h'
theorem rep_u8:∀ n,Go.AH.repL [Value.int .u8 0] n=List.replicate n (.int .u8 0)
 | 0=>rfl
 | n+1=>by rw [Go.AH.repL,rep_u8 n,List.replicate_succ];rfl
theorem globals_ex (hs:globalsM u.globals st=some st') (hf:st.fk=0) (hg:st.gl=[]) (hd0':st.data≤32768) (c0:ChkW h q F Fs mn st) (hU:UnitAt h q.ub u ug gs uf fs):EX Tryz.prog 18 [ptrC q.cb] h (GlobQ q h F Fs mn st'):=by
 refine EX.intro (fn:=Tryz.f18) (c:=(Tryz.f18.body.getD .skip)) Tryz.func18 (by kernel_rfl) Tryz.ntmps18 (by kernel_rfl) fun π s0=>?_
 conv=>arg 2;whnf
 have hd0:=s0.dom
 have hgl:=hU.gl
 ((with_reducible apply W.seq);repeat (first|((with_reducible apply RS.load1B);(iterate 3 exact rfl);first|exact c0.c;exact s0.dom _ _ c0.c;exact rfl|exact hU.m;exact s0.dom _ _ hU.m;exact rfl)|refine Yy ?_|refine Yr ?_|refine Y1 ?_|refine Y24 ?_))
 refine W.loopN (X:=Nat × Nat × CS) (fun x=>[(0,ptrC q.cb),(13,.slice (rA ug gs) gs.length (rK 12 gs)),(14,.int .i64 gs.length),(15,.int .i64 x.1)]) (fun x B=>x.1≤gs.length∧ChkW B { q with gb:=x.2.1 } F Fs mn x.2.2∧KeptX h B∧x.2.2.fk=0∧globalsM (u.globals.drop x.1) x.2.2=some st'∧x.2.2.gl.map GlS.name=(u.globals.take x.1).map DeclS.name∧x.2.2.data≤32768) (fun x=>gs.length - x.1)
  (fun B' a=>⟨(0,q.gb,st),?_,Nat.zero_le _,c0.old hd0 ⟨a.le,a.old⟩,Absb.kx a,hf,hs,by rw [hg];rfl,hd0'⟩) ?_
 ·(repeat' (first|exact trivial|exact rfl|apply And.intro));done
 rintro ⟨i,gb,v⟩ B π1 sB ⟨hle,c1,hkx,hfv,hgo,hnm,hdb⟩
 dsimp only at hle c1 hkx hfv hgo hnm hdb ⊢
 have w:=c1
 have hdB:=sB.dom
 have UB:=hU.upX hkx
 by_cases hi:i < gs.length
 ·obtain ⟨d,hd⟩:∃ d,u.globals[i]?=some d:=⟨_,List.getElem?_eq_getElem (by omega)⟩
  obtain ⟨c,hc⟩:∃ c,gs[i]?=some c:=⟨_,List.getElem?_eq_getElem (by omega)⟩
  obtain ⟨A,k,rfl,hA⟩:=UB.hasG i c d hc hd
  have hg0:gs≠[]:=fun e=>by rw [e] at hi;exact absurd hi (Nat.not_lt_zero _)
  have hsw:some (Value.slice (rA ug gs) gs.length (rK 12 gs))=some (.slice (some ⟨ug,0,none⟩) gs.length (capOf 12)):=by unfold rA rK;rw [if_neg hg0,if_neg hg0]
  obtain ⟨htk,hln⟩:=flatT hU.gs12 hc (o:=0) (n:=12) (by omega)
  have hgB:=UB.g hg0
  rw [List.drop_eq_getElem_cons (by omega),(List.getElem_eq_iff (by omega)).2 hd,globalsM] at hgo
  split at hgo
  ·cases hgo
  rename_i hcond
  simp only [Bool.or_eq_true,decide_eq_true_eq,not_or,Bool.not_eq_true,Nat.not_le] at hcond
  obtain ⟨⟨hany,hout⟩,hlen⟩:=hcond
  obtain ⟨t,ht,hgo⟩:=bind_some' hgo
  obtain ⟨n,hn,hgo⟩:=bind_some' hgo
  have hno:=gl_names hnm hany
  have hin:i < 100:=by
   have:=congrArg List.length hnm
   simp only [List.length_map,List.length_take] at this
   omega
  have hn3:=typS_size ht hn
  ((with_reducible apply W.seq);repeat (first|refine Y6 ?_|refine Yr ?_|refine Y1 ?_|refine Ym ?_))
  ((with_reducible apply W.seq);repeat (first|refine Y1h ?_|refine Y5 ?_))
  ((with_reducible apply W.seq);repeat (first|(with_reducible apply W.block)))
  ((with_reducible apply W.seq);repeat (first|refine Y6c ?_|((with_reducible apply (RS.loadNB (vs:=declC d A k++[.pointer none])));(iterate 3 exact rfl);exact hgB;exact hdB _ _ hgB;exact hln;exact htk)|refine Y7 ?_|refine Y2 ?_|refine Y9 ?_|refine Yr ?_|refine Y1 ?_|refine Ym ?_))
  refine W.absorbX fun B2 π2 a2=>?_
  have h3m:B2.m (π1 0)=some ⟨⟨declC d A k++[.pointer none]⟩,124⟩:=a2.loc 0 (Nat.lt_succ_self 0)
  have w:=w.old hdB ⟨a2.le,a2.old⟩
  have hk2:=hkx.trans (Absb.kx a2)
  have hA:=hA.upX (Absb.kx a2) rfl
  have hd2:=a2.dom
  generalize π1 0=p3 at *
  ((with_reducible apply W.seq);repeat (fail))
  ((with_reducible apply W.seq);repeat (first|((with_reducible apply (RS.callA (g0:=21)));(iterate 3 exact rfl);exact fun B' hB'=>(by have hck:=cok_tf (w.old hd2 ⟨hB'.le,hB'.old⟩) (decide_eq_true hfv);exact hck))|refine Y16 ?_|refine Yr ?_|refine Y1 ?_|refine Y1h ?_|refine Y3 ?_))
  with_reducible apply W.seq
  refine W.joinNT (X:=Nat × Nat) (fun x=>[(0,ptrC q.cb),(2,.int .i64 i),(3,ptrC p3),(4,ptrC x.1),(13,.slice (rA ug gs) gs.length (rK 12 gs)),(14,.int .i64 gs.length),(15,.int .i64 i)]) (fun x B=>ChkW B { q with gb:=gb } F Fs mn v∧KeptX h B∧B.m p3=some ⟨⟨declC d A k++[.pointer none]⟩,124⟩∧B.m x.1=some ⟨⟨tyC t x.2⟩,71⟩∧TyE B t x.2) ?_ ?_
  ·rcases typS_cases ht with ⟨l,rfl⟩|⟨l,m,rfl⟩
   all_goals
    repeat (first|((with_reducible apply (RS.loadNB (vs:=typeC d.ty A k)));(iterate 3 exact rfl);exact h3m;exact hd2 _ _ h3m;exact Nat.le_of_ble_eq_true rfl;exact rfl)|((with_reducible apply (RS.callEx (g0:=34)));(iterate 3 exact rfl);intro B3 hB3;refine ⟨_,typ_ex ht (hA.upX (Absb.kx hB3) rfl) _,?_⟩;rintro v' H3 π3 ⟨tb,rfl,hte,o3⟩ sp3 hle3)|refine Y1r ?_|refine Y2 ?_|refine Y9 ?_|refine Yr ?_|refine Y1 ?_)
    refine joinN_n rfl fun B' a=>?_
    have oo:Old B2 B':=Old.trans (⟨hB3.le,hB3.old⟩:Old B2 B3) (Old.trans o3 ⟨a.le,a.old⟩)
    refine ⟨(_,tb),?_,w.old hd2 oo,hk2.trans (Old.kx oo hd2),Old.kx oo hd2 _ _ h3m rfl,a.loc 0 (Nat.le_of_ble_eq_true rfl),hte.up (Absb.kx a)⟩
    (repeat' (first|exact trivial|exact rfl|apply And.intro));done
  clear w h3m hk2 hd2
  rintro ⟨tk,tb⟩ B4 π4 s4 ⟨w,hk4,h3m,h6m,hte⟩
  dsimp only at h6m hte ⊢
  have hd4:=s4.dom
  have U4:=hU.upX hk4
  have hdat:v.data≤32768:=hdb
  have hup8:=upS8_le hdat
  by_cases hbig:32768 < upS8 v.data+n
  ·rw [if_pos hbig] at hgo
   simp only [Option.some.injEq] at hgo
   subst hgo
   repeat (first|((with_reducible apply (RS.callA (g0:=21)));(iterate 3 exact rfl);exact fun B' hB'=>(by have hck:=cok_tf (w.old hd4 ⟨hB'.le,hB'.old⟩) (decide_eq_true hfv);exact hck))|refine Y52 ?_|refine Y53 ?_|refine Y59 ?_|((with_reducible apply (RS.callA (g0:=36)));(iterate 3 exact rfl);exact fun B' hB'=>(by have hck:=taken_tf (w.old hd4 ⟨hB'.le,hB'.old⟩) (U4.upX (Absb.kx hB')) (by omega) hno hout (by omega);exact hck))|((with_reducible apply (RS.callA (g0:=37)));(iterate 3 exact rfl);exact fun B' hB'=>(by have hck:=sized_tf (p:=d.pos) (w.old hd4 ⟨hB'.le,hB'.old⟩) hn (TyE.up (Absb.kx hB') hte);exact hck))|refine Y6a ?_|refine Y2l ?_|((with_reducible apply (RS.callWB (g0:=33) []));(iterate 3 exact rfl);exact w.c;exact hd4 _ _ w.c;exact fun H hH=>(by have hck:=cfail_tf (w.sees hd4 hH) 5 d.pos;exact hck))|refine Yl ?_|refine Y6 ?_|refine Y0 ?_|(with_reducible first|apply W.seq|apply W.ret|apply W.skip|apply thenK_n|apply thenK_r|apply blockK_r|apply roundN_r)|refine Y1 ?_|refine Y5 ?_|refine Y3 ?_)
   exact endsK_ret _ .nil fun B' a=>⟨rfl,gb,(w.failed hd4 5 d.pos).upA a.up,fun i c hi hk=>a.up _ _ (ck_keep w (hk4 i c hi hk) hk)⟩
  ·rw [if_neg hbig] at hgo
   have hpn:=hd4 _ _ w.p
   obtain ⟨w12,k12⟩:=w.rep (v':={ v with data:=upS8 v.data+n }) (Fs':=Fs) (mn':=mn) (B':=B4.set q.pb ⟨⟨prC { q with gb:=gb } Fs mn { v with data:=upS8 v.data+n }⟩,53⟩) (fun i c hne hi=>(if_neg hne).trans hi) (if_pos rfl) rfl rfl rfl
   have hd12:∀ i b,(B4.set q.pb ⟨⟨prC { q with gb:=gb } Fs mn { v with data:=upS8 v.data+n }⟩,53⟩).m i=some b→i < B4.n:=chk_dom w.p hd4
   have h3k:=k12 _ _ h3m rfl
   have h6k:=k12 _ _ h6m rfl
   have h3n:=hd4 _ _ h3m
   have hcp:q.cb≠q.pb:=elem_ne w.c w.p rfl
   have hcP:=w12.c
   have hnn:n≠0:=sizeS_pos hn
   ((with_reducible apply W.seq);repeat (fail))
   ((with_reducible apply W.seq);repeat (first|refine Y52 ?_|((with_reducible apply (RS.callA (g0:=36)));(iterate 3 exact rfl);exact fun B' hB'=>(by have hck:=taken_tf (w.old hd4 ⟨hB'.le,hB'.old⟩) (U4.upX (Absb.kx hB')) (by omega) hno hout (by omega);exact hck))|refine Y1r ?_|refine Yr ?_|refine Y1 ?_|refine Y1h ?_|refine Y3 ?_))
   ((with_reducible apply W.seq);repeat (first|refine Y52 ?_|refine Y53 ?_|((with_reducible apply (RS.callA (g0:=37)));(iterate 3 exact rfl);exact fun B' hB'=>(by have hck:=sized_tf (p:=d.pos) (w.old hd4 ⟨hB'.le,hB'.old⟩) hn (TyE.up (Absb.kx hB') hte);exact hck))|refine Yu ?_|refine Yr ?_|refine Y1 ?_|refine Ym ?_))
   ((with_reducible apply W.seq);repeat (fail))
   ((with_reducible apply W.seq);repeat (first|((with_reducible apply (RS.callA (g0:=21)));(iterate 3 exact rfl);exact fun B' hB'=>(by have hck:=cok_tf (w.old hd4 ⟨hB'.le,hB'.old⟩) (decide_eq_true hfv);exact hck))|refine Y16 ?_|refine Yr ?_|refine Y1 ?_|refine Y1h ?_|refine Y3 ?_))
   ((with_reducible apply W.seq);repeat (first|refine Y59 ?_|refine Y6a ?_|refine Y8 ?_|refine Yr ?_|refine Y1 ?_|refine Ym ?_))
   ((with_reducible apply W.seq);repeat (fail))
   ((with_reducible apply W.seq);repeat (first|refine Y2l ?_|refine Y11 ?_|refine Y4 ?_|refine Yr ?_|refine Y1 ?_|refine Y1h ?_|refine Y3 ?_))
   ((with_reducible apply W.seq);repeat (first|((with_reducible apply RS.load1B);(iterate 3 exact rfl);exact w.c;exact hd4 _ _ w.c;exact rfl)|refine Y2l ?_|((with_reducible apply (RS.storeB (cs':=prC { q with gb:=gb } Fs mn { v with data:=upS8 v.data+n })));(iterate 3 exact rfl);exact w.p;exact hpn;exact w.pw;exact Nat.le_of_ble_eq_true rfl;iterate 3 exact rfl)|refine Yf ?_|refine Yr ?_|refine Y1 ?_|refine Ym ?_))
   have hll:v.gl.length < 100:=by omega
   have hmk:n≤9223372036854775807∧1 * n≤281474976710656:=by omega
   have hmf:∀ u∈List.replicate n (Value.int .u8 0),bnd 0 u:=fun u hu=>by rw [List.eq_of_mem_replicate hu];exact bnd_int _ _ _
   have hpush:∀ (gr:List (List Value)) (B':Hp) (k mb:Nat),(v.gl≠[]→RowsAt (B4.set q.pb ⟨⟨prC { q with gb:=gb } Fs mn { v with data:=upS8 v.data+n }⟩,53⟩) gb v.gl 74 GlRow 15 gr)→(v.gl=[]→gr=[])→(∀ i c,i≠q.pb→(v.gl≠[]→i≠gb)→(B4.set q.pb ⟨⟨prC { q with gb:=gb } Fs mn { v with data:=upS8 v.data+n }⟩,53⟩).m i=some c→B'.m i=some c)→B'.m q.pb=some ⟨⟨prC { q with gb:=k } Fs mn { v with gl:=v.gl++[⟨d.name,t,upS8 v.data⟩],data:=upS8 v.data+n }⟩,53⟩→B'.m k=some ⟨⟨gr.flatten++varC d.name t tb true (upS8 v.data:Nat) (.slice (some ⟨mb,0,none⟩) n n)⟩,74⟩→rwM≤k→ChkW B' { q with gb:=k } F Fs mn { v with gl:=v.gl++[⟨d.name,t,upS8 v.data⟩],data:=upS8 v.data+n }∧KeptX h B'∧v.fk=0∧globalsM (u.globals.drop (i+1)) { v with gl:=v.gl++[⟨d.name,t,upS8 v.data⟩],data:=upS8 v.data+n }=some st'∧(v.gl++[(⟨d.name,t,upS8 v.data⟩:GlS)]).map GlS.name=(u.globals.take (i+1)).map DeclS.name∧upS8 v.data+n≤32768:=fun gr B' k mb hgs hg0 up hp hm hk=>by
    obtain ⟨g1,g2⟩:=w12.pushG (g:=⟨d.name,t,upS8 v.data⟩) (row:=varC d.name t tb true (upS8 v.data:Nat) (.slice (some ⟨mb,0,none⟩) n n)) (gs:=gr) up hp hgs hg0 (by simpa using hm) (fun kx=>⟨tb,some ⟨mb,0,none⟩,n - 1,n,by rw [Nat.sub_add_cancel (by omega)],hte.up (k12.trans kx)⟩) (varC_len _ _ _ _ _ _) hk hll
    exact ⟨g1,(hk4.trans k12).trans g2,hfv,hgo,by rw [List.map_append,hnm,List.take_add_one,hd,List.map_append];rfl,by omega⟩
   by_cases hl0:v.gl=[]
   ·have hsn:some (Value.slice (rA1 gb v.gl) v.gl.length (rK1 15 v.gl))=some (.slice none 0 0):=by rw [hl0];rfl
    have hfc:∀ k,setL (prC { q with gb:=gb } Fs mn { v with data:=upS8 v.data+n }) 1 [.slice (some ⟨k,0,none⟩) 1 (capOf 15)]=prC { q with gb:=k } Fs mn { v with gl:=v.gl++[⟨d.name,t,upS8 v.data⟩],data:=upS8 v.data+n }:=fun k=>by
     show _=[_,Value.slice (rA1 k (v.gl++[_])) (v.gl++[_]).length (rK1 15 (v.gl++[_])),_,_,_]
     rw [hl0];rfl
    rcases typS_cases ht with ⟨l,rfl⟩|⟨l,m,rfl⟩
    all_goals
     repeat (first|((with_reducible apply RS.load1B);(iterate 3 exact rfl);first|exact w12.c;exact hd12 _ _ w12.c;exact rfl|exact w12.p;exact hd12 _ _ w12.p;exact rfl)|refine Y6b ?_|refine Y5l ?_|((with_reducible apply RS.makeSliceF);(iterate 6 exact rfl);exact hmk;exact rep_u8 n;exact hmf)|((with_reducible apply RS.fieldAddrX);(iterate 3 exact rfl);exact hd12 _ _ h3k)|refine Y3w ?_|refine Yi ?_|((with_reducible apply (RS.appendNil (i:=1)));(iterate 2 exact rfl);exact hsn;(iterate 5 exact rfl);exact Nat.le_of_ble_eq_true rfl;exact Nat.lt_succ_self 0;exact Nat.le_of_ble_eq_true rfl;exact Nat.le_of_ble_eq_true rfl)|((with_reducible apply RS.storeB);(iterate 3 exact rfl);exact w12.p;exact hpn;exact w.pw;exact Nat.le_of_ble_eq_true rfl;(iterate 2 exact rfl);exact hfc _)|refine Yf ?_|refine Yp ?_|refine Ya ?_|refine Y0 ?_|refine Y1 ?_|(with_reducible first|apply thenK_n|apply blockK_n))
     refine roundN_n rfl fun B' a=>⟨(i+1,π4 2,{ v with gl:=v.gl++[⟨d.name,_,upS8 v.data⟩],data:=upS8 v.data+n }),?_,⟨hi,hpush [] _ _ _ (fun e=>absurd hl0 e) (fun _=>rfl) (fun i c h1 _ hi=>a.up _ _ ((if_neg h1).trans hi)) (a.up _ _ (if_pos rfl)) (a.loc 2 (Nat.le_of_ble_eq_true rfl)) (Nat.le_trans a.rw (a.lo 2 (Nat.le_of_ble_eq_true rfl)))⟩,Nat.sub_lt_sub_left hi (Nat.lt_succ_self i)⟩
     (repeat' (first|exact trivial|exact rfl|apply And.intro));done
   ·have hsw:some (Value.slice (rA1 gb v.gl) v.gl.length (rK1 15 v.gl))=some (.slice (some ⟨gb,0,none⟩) v.gl.length (capOf 15)):=by unfold rA1 rK1;rw [if_neg hl0,if_neg hl0]
    obtain ⟨gr,hgr⟩:=w12.g hl0
    have hgm:=hgr.m
    have hgfl:gr.flatten.length=v.gl.length * 15:=by rw [flat_len hgr.wid,hgr.len]
    have hcg:q.cb≠gb:=elem_ne w12.c hgm rfl
    have hpg:q.pb≠gb:=elem_ne w12.p hgm rfl
    have hfc:∀ k,setL (prC { q with gb:=gb } Fs mn { v with data:=upS8 v.data+n }) 1 [.slice (some ⟨k,0,none⟩) (v.gl.length+1) (capOf 15)]=prC { q with gb:=k } Fs mn { v with gl:=v.gl++[⟨d.name,t,upS8 v.data⟩],data:=upS8 v.data+n }:=fun k=>by
     show _=[_,Value.slice (rA1 k (v.gl++[_])) (v.gl++[_]).length (rK1 15 (v.gl++[_])),_,_,_]
     unfold rA1 rK1
     rw [if_neg (by simp),if_neg (by simp),List.length_append];rfl
    rcases typS_cases ht with ⟨l,rfl⟩|⟨l,m,rfl⟩
    all_goals
     repeat (first|((with_reducible apply RS.load1B);(iterate 3 exact rfl);exact w12.p;exact hd12 _ _ w12.p;exact rfl)|refine Y6b ?_|refine Y5l ?_|((with_reducible apply RS.makeSliceF);(iterate 6 exact rfl);exact hmk;exact rep_u8 n;exact hmf)|((with_reducible apply RS.fieldAddrX);(iterate 3 exact rfl);exact hd12 _ _ h3k)|refine Y3w ?_|refine Yi ?_|((with_reducible apply RS.load1X);(iterate 3 exact rfl);exact w12.c;exact hd12 _ _ w12.c;exact rfl)|((with_reducible apply (RS.growXL (j:=gb) (i:=1)));(iterate 2 exact rfl);exact hsw;(iterate 3 exact rfl);exact hgm;exact hd12 _ _ hgm;exact hgr.rw;exact hgfl;(iterate 2 exact rfl);exact Nat.le_of_ble_eq_true rfl;exact rfl;exact Nat.le_trans (Nat.mul_le_mul_right _ (show v.gl.length+1≤100 from by omega)) (Nat.le_of_ble_eq_true rfl);exact Nat.le_trans (show v.gl.length+1≤100 from by omega) (Nat.le_of_ble_eq_true rfl))|((with_reducible apply RS.storeB);(iterate 3 exact rfl);exact ((if_neg hpg).trans w12.p);exact hpn;exact w.pw;exact Nat.le_of_ble_eq_true rfl;(iterate 2 exact rfl);exact hfc _)|((with_reducible apply RS.nilX);exact mixed;(intro _;kernel_rfl);(intro _;exact sideOK_all (j:=gb) (b:=q.cb) hcg.symm (by repeat' (first|exact trivial|exact .inl rfl|exact .inr rfl|apply And.intro)));rotate_left;exact rfl)|refine Yf ?_|refine Yp ?_|refine Ya ?_|refine Y1 ?_|(with_reducible first|apply thenK_n|apply blockK_n))
     refine roundN_n rfl fun B' a=>⟨(i+1,π4 2,{ v with gl:=v.gl++[⟨d.name,_,upS8 v.data⟩],data:=upS8 v.data+n }),?_,⟨hi,hpush gr _ _ _ (fun _=>hgr) (fun e=>absurd e hl0) (fun i c h1 h2 hi=>a.up _ _ ((if_neg h1).trans ((if_neg (h2 hl0)).trans hi))) (a.up _ _ (if_pos rfl)) (a.loc 2 (Nat.le_of_ble_eq_true rfl)) (Nat.le_trans a.rw (a.lo 2 (Nat.le_of_ble_eq_true rfl)))⟩,Nat.sub_lt_sub_left hi (Nat.lt_succ_self i)⟩
     (repeat' (first|exact trivial|exact rfl|apply And.intro));done
 ·rw [List.drop_eq_nil_of_le (by omega),globalsM] at hgo
  simp only [Option.some.injEq] at hgo
  obtain rfl:=hgo
  repeat (first|refine Y4 ?_|refine Yr ?_|refine Y36 ?_|refine Y1 ?_|refine Y3 ?_|refine Yn ?_)
  exact endsK_normal _ .nil fun B' a=>⟨rfl,gb,w.old hdB ⟨a.le,a.old⟩,hkx.trans (Absb.kx a)⟩
end
end Go.Proofs.YtgpigfcagppohaaGreatDoor
