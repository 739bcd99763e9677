/-
  What the functions that the law reaches compute,told by plain data;it holds of programs that pass the check of right form and are light.
-/
import Derived.Test.YtjhloakacicdiaaDoorR10
import Derived.Test.YtjhloakacicdiaaDoorR6
set_option linter.unusedVariables false
set_option linter.unusedSimpArgs false
namespace Go.Proofs.YtjhloakacicdiaaDoor
open Go.AH
attribute [local irreducible] W RS
theorem exec_range {o:Oper} {ev:Operand→Value} {W W':World} {x:Operand} {t:TypeId} {u v:Value} (ho:o.op=.range t x) (hx:ev x=u) (hr:(Instr.range t u).run Tryd.prog W=.ok v W'):(execOp ev o).run Tryd.prog W=.ok (.value v) W':=by
 simp only [execOp,ho,hx,Sem.run_bind,hr,Result.andThen_ok,Sem.run_pure]
theorem tx_moveV {o:Oper} {ev:Operand→Value} {h:Hp} {x:Operand} {v:Value} (ho:o.op=.move x) (hx:ev x=v):TX Tryd.prog o ev h v h:=hx ▸ TX.move ho
theorem tx_nilV {o:Oper} {ev:Operand→Value} {h:Hp} {x:Operand} {a:Addr} (ho:o.op=.nilCheck x) (hx:ev x=.pointer (some a)):TX Tryd.prog o ev h (.pointer (some a)) h:=hx ▸ TX.nilCheck ho hx
noncomputable def chgRange:Code:=match Tryd.f73.body with
 | some (.seq _ (.seq c _))=>c
 | _=>.skip
abbrev chgF (bb:Nat) (r:Int):List (Nat × Value):=[(1,.int .i64 r),(0,.pointer (some ⟨bb,0,none⟩))]
def RangeK (B:Hp) (bb mb:Nat) (r:Int) (m:MapC):Exit→Fr→SH→Prop:=fun e f' h'=>e=.normal∧f'.nt=71∧AllV f'.l (chgF bb r)∧∀ B',Absb (P:=Tryd.prog) h' B'→B.n≤B'.n∧B'.m mb=some ⟨⟨[]⟩,mapE (dropM m r)⟩∧∀ i b,B.m i=some b→i≠mb→B'.m i=some b
theorem chg_rounds {B:Hp} {ρ0:Env} {W0:World} {bb mb it:Nat} {r:Int} {V:Value} {m0:MapC} (hmr:rwM≤mb):∀ (n cnt:Nat) (A:Act) (W:World),cnt < n→RgA B ρ0 W0 bb mb it r V m0 (fun k=>k=cnt) A W →
 Code.rounds Tryd.prog chgBody (fun e A' W'=>e=.exit 0∧RgA B ρ0 W0 bb mb it r V m0 (fun k=>k=0) A' W') n A W:=by
 intro n
 induction n with
 | zero=>intro cnt A W h;omega
 | succ n ih =>
  intro cnt A W hn h
  rw [rounds_succ]
  refine wp_mono (chg_round hmr cnt h) ?_
  rintro e A' W' (⟨rfl,h1⟩|⟨rfl,a,ρ,H,m,seen,c0,h1,h2,h3,h4,h5⟩)
  ·exact ⟨rfl,h1⟩
  ·exact ih _ _ _ (by omega) ⟨a,ρ,H,m,seen,c0,h1,h2,h3,h4,rfl⟩
set_option maxRecDepth 100000 in
theorem chg_range (B:Hp) (bb mb:Nat) (r:Int) (V:Value) (m:MapC) (hb:B.m bb=some ⟨⟨[.map (some mb),V]⟩,98⟩) (hm:B.m mb=some ⟨⟨[]⟩,mapE m⟩) (hmr:rwM≤mb) (ok:MOK m):∀ (a:Act) (ρ:Env) (W:World),HOK Tryd.prog.globals.size B ρ W→bndA B.n a→Agr ⟨chgF bb r,71⟩ a →
 chgRange.wp Tryd.prog (PostN Tryd.prog B ρ W (RangeK B bb mb r m)) (renA ρ a) W:=by
 intro a ρ0 W0 hok hba hag
 unfold chgRange
 conv=>arg 2;whnf
 refine wp_seq (wp_region ?_)
 show wpOps _ _ _ [0,1,2,3,4] _ _
 have one:∀ t:Nat,∀ y∈[Operand.tmp t],okOp Tryd.prog.globals.size y:=fun t y hy=>by
  rcases List.mem_cons.1 hy with rfl|hy
  ·trivial
  ·cases hy
 refine tx_use (d:=some 14) (v:=.pointer (some ⟨bb,0,none⟩)) (H':=B) rfl rfl rfl (by exact tx_moveV rfl (hag.ev (x:=.tmp 0) rfl)) rfl (one 0) hba hok fun ρ1 W1 hok1 hE1 hba1=>?_
 have hag1:=hag.put (d:=some 14) rfl (.pointer (some ⟨bb,0,none⟩))
 refine tx_use (d:=some 15) (v:=.pointer (some ⟨bb,0,none⟩)) (H':=B) rfl rfl rfl (by exact tx_nilV rfl (hag1.ev (x:=.tmp 14) rfl)) rfl (one 14) hba1 hok1 fun ρ2 W2 hok2 hE2 hba2=>?_
 have hag2:=hag1.put (d:=some 15) rfl (.pointer (some ⟨bb,0,none⟩))
 refine tx_use (d:=some 16) (v:=.pointer (some ⟨bb,0+0,none⟩)) (H':=B) rfl rfl rfl (by exact tx_fieldAddr rfl (hag2.ev (x:=.tmp 15) rfl)) rfl (one 15) hba2 hok2 fun ρ3 W3 hok3 hE3 hba3=>?_
 have hag3:=hag2.put (d:=some 16) rfl (.pointer (some ⟨bb,0+0,none⟩))
 refine tx_use (d:=some 17) (v:=.map (some mb)) (H':=B) rfl rfl rfl (by exact tx_load1 rfl (hag3.ev (x:=.tmp 16) rfl) hb rfl) rfl (one 16) hba3 hok3 fun ρ4 W4 hok4 hE4 hba4=>?_
 have hag4:=hag3.put (d:=some 17) rfl (.map (some mb))
 generalize hA4:((((a.put (some 14) (.pointer (some ⟨bb,0,none⟩))).put (some 15) (.pointer (some ⟨bb,0,none⟩))).put (some 16) (.pointer (some ⟨bb,0+0,none⟩))).put (some 17) (.map (some mb)))=a4 at hag4 hba4 ⊢
 have hE:=((hE1.trans hE2).trans hE3).trans hE4
 have hmw:=((hok4.fits _ _ hm).map hmr).1
 have hrun:=run_range_map (P:=Tryd.prog) W4 95 3 46 (ρ4.loc mb) m.es m.clock (by kernel_rfl) hmw
 obtain ⟨hok5,hE5⟩:=hok4.newO none 0 (.mapIter (some (ρ4.loc mb)) m.clock #[] m.clock) (fun b h=>by cases h) (W4.alloc (.mapIter (some (ρ4.loc mb)) m.clock #[] m.clock)) rfl rfl rfl rfl
 refine wpOps_value rfl rfl (exec_range rfl ((ev_at hok4.glob hag4 (x:=.tmp 17) rfl trivial).trans (by simp)) hrun) ?_
 have hmn:=hok4.lt _ _ hm
 have hbn:=hok4.lt _ _ hb
 have hag5:=hag4.put (d:=some 18) rfl (.pointer (some ⟨B.n,0,none⟩))
 have hba5:bndA (B.n+1) (a4.put (some 18) (.pointer (some ⟨B.n,0,none⟩))):=put_bnd (bndA_mono (Nat.le_succ _) hba4) _ (by simp)
 have he:(renA ρ4 a4).put (some 18) (.pointer (some ⟨W4.heap.size,0,none⟩))=renA (ρ4.add B.n W4.heap.size 0) (a4.put (some 18) (.pointer (some ⟨B.n,0,none⟩))):=by
  rw [put_ren,renA_agree (ρ4.add_agree _ _ _) hba4]
  simp [renAddr,Env.add]
 show wpOps _ _ _ [] ((renA ρ4 a4).put (some 18) _) _
 rw [he]
 show Code.wp Tryd.prog (.block 0 (.loop chgBody)) _ _ _
 have hst:RgI B ρ0 W0 bb mb B.n r V m (fun b=>(#[]:Array Nat).contains b=true) ⟨fun j=>if j=B.n then none else B.m j,B.n+1⟩ (ρ4.add B.n W4.heap.size 0) (W4.alloc (.mapIter (some (ρ4.loc mb)) m.clock #[] m.clock)) m #[] m.clock :=
  {
   hok:=hok5,ext:=hE.trans hE5,lo:=Nat.le_refl _,hi:=Nat.lt_succ_self _
   hb:=by show (if bb=B.n then none else B.m bb)=_;rw [if_neg (by omega)];exact hb
   hm:=by show (if mb=B.n then none else B.m mb)=_;rw [if_neg (by omega)];exact hm
   keep:=fun i b h1 _=>by have:=hok4.lt _ _ h1;show (if i=B.n then none else B.m i)=_;rw [if_neg (by omega)];exact h1
   iter:=by
    rw [show (ρ4.add B.n W4.heap.size 0).loc B.n=W4.heap.size by simp [Env.add],heap_alloc_new,(ρ4.add_agree B.n W4.heap.size 0 mb hmn).1]
   new:=by rw [show (ρ4.add B.n W4.heap.size 0).loc B.n=W4.heap.size by simp [Env.add]];exact hE.size
   sh:=by simp [Env.add]
   ok:=ok,clk:=rfl,c0:=Nat.le_refl _
   done:=fun row _ h=>by simp at h
   filt:=rfl }
 refine wp_block (wp_mono (wp_loop_rounds _ (chg_rounds hmr _ _ _ _ (Nat.lt_succ_self _) ⟨_,_,_,_,_,_,rfl,hba5,hag5.weak rfl fun t v hv=>(show AllV _ _ by (repeat' (first|exact trivial|exact rfl|apply And.intro));done).get t v hv,hst,rfl⟩)) ?_)
 rintro e A W6 ⟨rfl,a6,ρ6,H6,m6,seen6,c6,rfl,hba6,hag6,hg6,h0⟩
 show PostN _ _ _ _ _ .normal _ _
 have s6:Sat Tryd.prog H6:=⟨ρ6,W6,hg6.hok⟩
 have hden:=s6.den
 have hall:m6.rows=m.rows.filter (keepR r):=by
  rw [← hg6.filt]
  symm
  rw [List.filter_eq_self]
  intro row hr
  refine hg6.done row hr ?_
  have:=all_seen m6.es seen6 h0 (rowE 0 row) (by rw [es_list,hg6.ok.s0];exact List.mem_map.2 ⟨row,hr,rfl⟩)
  exact this
 have hm6:m6=dropM m r:=by
  obtain ⟨s,c,rows⟩:=m6
  have h1:=hg6.ok.s0
  have h2:=hg6.clk
  simp only at hall h1 h2
  unfold dropM
  rw [hall,h1,h2,← ok.s0]
  rfl
 refine ⟨⟨loopF bb B.n r,71⟩,SH.of H6,a6,ρ6,⟨rfl,rfl,by (repeat' (first|exact trivial|exact rfl|apply And.intro));done,fun B' x=>⟨?_,?_,fun i b h1 h2=>?_⟩⟩,s6.wf,rfl,by rw [hden];exact hba6,hag6,by rw [hden];exact hg6.hok,by rw [hden];exact hg6.ext⟩
 ·exact Nat.le_trans hg6.ext.mono x.le
 ·rw [← hm6];exact x.up _ _ hg6.hm
 ·exact x.up _ _ (hg6.keep i b h1 h2)
noncomputable def chgRest:Code:=match Tryd.f73.body with
 | some (.seq _ (.seq _ c))=>c
 | _=>.skip
def keepV (r:Int) (v:KnV):Bool:=keepW r v.k
theorem keepV_iff (r:Int) (v:KnV):keepV r v=true↔v.k.2≠r∧v.k.1.a.reg≠r∧v.k.1.b.reg≠r:=by
 unfold keepV keepW
 simp only [Bool.and_eq_true,decide_eq_true_eq]
 exact ⟨fun h=>⟨h.1.1,h.1.2,h.2⟩,fun h=>⟨⟨h.1,h.2.1⟩,h.2.2⟩⟩
set_option maxRecDepth 100000 in
theorem chg_rest (B2:Hp) (s2:Sat Tryd.prog B2) (bb mb:Nat) (r:Int) (r0:Nat) (l:List KnV) (hB0:B2.m bb=some ⟨⟨[.map (some mb),rowVl 13 r0 (rowK l)]⟩,98⟩) (hR:l≠[]→B2.m r0=some ⟨⟨(rowK l).flatten⟩,130⟩) (hbr:rwM≤bb) (hll:l.length≤1000000000) :
 W Tryd.prog chgRest ⟨chgF bb r,71⟩ (SH.of B2) (endsK Tryd.prog Tryd.f73 fun vs h'=>vs=[]∧∃ r',∀ B',Absb (P:=Tryd.prog) h' B'→B2.n≤B'.n∧B'.m bb=some ⟨⟨[.map (some mb),rowVl 13 r' (rowK (l.filter (keepV r)))]⟩,98⟩ ∧
  (l.filter (keepV r)≠[]→B2.n≤r'∧B'.m r'=some ⟨⟨(rowK (l.filter (keepV r))).flatten⟩,130⟩)∧∀ i b,B2.m i=some b→i≠bb→B'.m i=some b):=by
 have hd:=s2.dom
 have hB:=hB0
 have hBn:=hd _ _ hB
 rw [rowVl_eq] at hB
 have hrl:(rowK l).length=l.length:=by simp [rowK]
 unfold chgRest
 conv=>arg 2;whnf
 unfold chgF
 ((with_reducible apply W.seq);repeat (first|refine Y15 ?_|refine Y0 ?_|refine Y1 ?_|refine Y13 ?_))
 ((with_reducible apply W.seq);repeat (fail))
 ((with_reducible apply W.seq);repeat (first|refine Y3i ?_|refine Y2a ?_|refine Y0 ?_|refine Y1 ?_|refine Y3u ?_))
 refine W.loopN (X:=Nat × Nat) (fun x=>[(0,.pointer (some ⟨bb,0,none⟩)),(1,.int .i64 r),(36,.slice (if rowK l=[] then none else some ⟨r0,0,none⟩) l.length (if rowK l=[] then 0 else capOf 13)),(37,.int .i64 (l.length:Int)),(38,.int .i64 (x.1:Int)),(6,rowVl 13 x.2 (rowK ((l.take x.1).filter (keepV r))))])
  (fun x B=>x.1≤l.length∧FilI B2 (keepV r) l x.1 x.2 B) (fun x=>l.length - x.1)
  (fun B' a=>⟨(0,0),by (rw [← hrl];(repeat' (first|exact trivial|exact rfl|apply And.intro));done),⟨Nat.zero_le _,a.up,a.le,fun hn=>by simp at hn⟩⟩) ?_
 rintro ⟨i,r'⟩ B π1 sB ⟨hi,hI⟩
 dsimp only at hi hI ⊢
 by_cases hlt:i < l.length
 ·obtain ⟨v,hv⟩:∃ v,l[i]?=some v:=⟨_,List.getElem?_eq_getElem hlt⟩
  have hne:l≠[]:=by intro e;rw [e] at hlt;exact absurd hlt (Nat.not_lt_zero _)
  have hne2:rowK l≠[]:=fun e=>hne (rowK_nil.1 e)
  have hr:=hI.up _ _ (hR hne)
  have hrn:=sB.dom _ _ hr
  have hle:0+i * 13+13≤(rowK l).flatten.length:=by rw [rowK_flat];omega
  have hft:=filter_take (keepV r) hv
  have hfl:((l.take i).filter (keepV r)).length≤1000000000:=Nat.le_trans (List.length_filter_le _ _) (by rw [List.length_take];omega)
  have hkv:=keepV_iff r v
  rw [if_neg hne2,if_neg hne2]
  by_cases h1:v.k.2=r
  ·rw [if_neg (by rw [hkv];simp [h1]),List.append_nil] at hft
   repeat (first|refine Y2 ?_|refine Y3 ?_|refine Ya ?_|refine Y26 ?_|refine Y16 ?_|refine Yb ?_|refine Yd ?_|refine Y7 ?_|refine Y4 ?_|refine Yf ?_|refine Yn ?_|refine Y0 ?_|refine Ye ?_|refine Y1 ?_|refine Y5 ?_|refine Y6 ?_)
   exact roundN_n rfl fun B' a=>⟨(i+1,r'),by (rw [hft];(repeat' (first|exact trivial|exact rfl|apply And.intro));done),⟨hlt,fun j b hb=>a.up _ _ (hI.up _ _ hb),Nat.le_trans hI.le a.le,fun hn=>by rw [hft] at hn ⊢;exact ⟨(hI.row hn).1,a.up _ _ (hI.row hn).2⟩⟩,by omega⟩
  by_cases h2:v.k.1.a.reg=r
  ·rw [if_neg (by rw [hkv];simp [h2]),List.append_nil] at hft
   repeat (first|refine Y2 ?_|refine Y3 ?_|refine Ya ?_|refine Y26 ?_|refine Y16 ?_|refine Yk ?_|refine Yb ?_|refine Yd ?_|refine Y7 ?_|refine Y4 ?_|refine Yf ?_|refine Yn ?_|refine Y0 ?_|refine Ye ?_|refine Y1 ?_|refine Y5 ?_|refine Y6 ?_)
   exact roundN_n rfl fun B' a=>⟨(i+1,r'),by (rw [hft];(repeat' (first|exact trivial|exact rfl|apply And.intro));done),⟨hlt,fun j b hb=>a.up _ _ (hI.up _ _ hb),Nat.le_trans hI.le a.le,fun hn=>by rw [hft] at hn ⊢;exact ⟨(hI.row hn).1,a.up _ _ (hI.row hn).2⟩⟩,by omega⟩
  by_cases h3:v.k.1.b.reg=r
  ·rw [if_neg (by rw [hkv];simp [h3]),List.append_nil] at hft
   repeat (first|refine Y2 ?_|refine Y3 ?_|refine Ya ?_|refine Y26 ?_|refine Y16 ?_|refine Yk ?_|refine Yd ?_|refine Y7 ?_|refine Y4 ?_|refine Yf ?_|refine Y0 ?_|refine Ye ?_|refine Y1 ?_|refine Y5 ?_|refine Y6 ?_)
   exact roundN_n rfl fun B' a=>⟨(i+1,r'),by (rw [hft];(repeat' (first|exact trivial|exact rfl|apply And.intro));done),⟨hlt,fun j b hb=>a.up _ _ (hI.up _ _ hb),Nat.le_trans hI.le a.le,fun hn=>by rw [hft] at hn ⊢;exact ⟨(hI.row hn).1,a.up _ _ (hI.row hn).2⟩⟩,by omega⟩
  rw [if_pos (hkv.2 ⟨h1,h2,h3⟩)] at hft
  repeat (first|refine Y3 ?_|refine Ya ?_|refine Y26 ?_|((with_reducible apply RS.pushRow (v:=knC v) (L:=rowK ((l.take i).filter (keepV r))));(iterate 6 exact rfl);exact fun Bq hBq=>⟨hBq.loc 1 (by decide:(1:Nat) < 2),fun hn=>(have hn:(l.take i).filter (keepV r)≠[]:=fun e=>hn (by rw [e];rfl);⟨Nat.le_trans s2.rw (hI.row hn).1,hBq.up _ _ (hI.row hn).2⟩)⟩;exact rowK_len _;(iterate 2 exact rfl);(rw [show (rowK ((l.take i).filter (keepV r))).length=_ from List.length_map ..];omega);(rw [show (rowK ((l.take i).filter (keepV r))).length=_ from List.length_map ..];omega);intro B7 hB7 r7 H7 π7 sH7 hr7 hm7 hle7 hoff7)|refine Yi ?_|refine Y9 ?_|refine Yk ?_|refine Yd ?_|refine Y7 ?_|refine Y8 ?_|refine Y4 ?_|refine Yf ?_|refine Y0 ?_|refine Ye ?_|refine Y1 ?_|refine Y5 ?_)
  have hI7:=hI.push hd hft hB7.up hB7.dom hB7.le hr7 hm7 hle7 hoff7
  exact roundN_n rfl fun B' a=>⟨(i+1,r7),by (rw [hft,← rowK_append];(repeat' (first|exact trivial|exact rfl|apply And.intro));done),⟨hlt,fun j b hb=>a.up _ _ (hI7.up _ _ hb),Nat.le_trans hI7.le a.le,fun hn=>⟨(hI7.row hn).1,a.up _ _ (hI7.row hn).2⟩⟩,by omega⟩
 ·have hil:i=l.length:=by omega
  subst hil
  rw [List.take_length] at *
  have hBb:=hI.up _ _ hB
  have hBbn:=sB.dom _ _ hBb
  rw [rowVl_eq]
  repeat (first|refine Y2 ?_|((with_reducible apply RS.storeB);(iterate 3 exact rfl);exact hBb;exact hBbn;exact hbr;exact Nat.le_of_ble_eq_true rfl;iterate 3 exact rfl)|refine Y20 ?_|refine Y0 ?_|refine Y4a ?_|refine Y1 ?_|refine Y6 ?_|refine Yl ?_)
  refine endsK_normal [] .nil ⟨rfl,r',fun B' a=>⟨Nat.le_trans hI.le a.le,?_,fun hn=>?_,fun j b hb hj=>a.up _ _ ?_⟩⟩
  ·rw [rowVl_eq]
   exact a.up _ _ (by show (if bb=bb then some _ else B.m bb)=_;rw [if_pos rfl];rfl)
  ·have h1:=hI.row (by rw [List.take_length];exact hn)
   rw [List.take_length] at h1
   refine ⟨h1.1,a.up _ _ ?_⟩
   show (if r'=bb then some _ else B.m r')=_
   rw [if_neg (by omega)];exact h1.2
  ·show (if j=bb then some _ else B.m j)=_
   rw [if_neg hj];exact hI.up _ _ hb
def chgH (h:Hp) (bb mb:Nat) (m':MapC) (l':List KnV):Hp :=
 ⟨fun i=>if i=bb then some ⟨⟨[.map (some mb),rowVl 13 h.n (rowK l')]⟩,98⟩ else if i=mb then some ⟨⟨[]⟩,mapE m'⟩ else if i=h.n then (if l'=[] then none else some ⟨⟨(rowK l').flatten⟩,130⟩) else h.m i,h.n+1⟩
theorem rowVl_sub (σ:Nat→Nat) (r:Nat) (L:List (List Value)):sub σ (rowVl 13 r L)=rowVl 13 (σ r) L:=by
 cases L<;>simp [rowVl]
set_option maxRecDepth 100000 in
theorem changed_tf (h:Hp) (N bb mb:Nat) (s:CseS) (r:Int) (o:CseAt h N bb mb s) (r0:Nat) (l:List KnV) (hl:l.map (·.k)=s.w) (hB:h.m bb=some ⟨⟨[.map (some mb),rowVl 13 r0 (rowK l)]⟩,98⟩) (hR:l≠[]→N≤r0∧h.m r0=some ⟨⟨(rowK l).flatten⟩,130⟩) (hw:s.w.length≤1000000000) :
 TF Tryd.prog 73 ⟨[.pointer (some ⟨bb,0,none⟩),.int .i64 r]⟩ h (.tuple #[]) (chgH h bb mb (dropM (s.m.del r) r) (l.filter (keepV r))):=by
 have hne:=o.ne
 have hM:=o.hm
 have hMr:=Nat.le_trans o.rw o.gm
 have hBr:=Nat.le_trans o.rw o.gb
 have hs0:=o.ok.s0
 have hll:l.length≤1000000000:=by rw [← hl] at hw;simpa using hw
 refine TF.introN (fn:=Tryd.f73) (c:=(Tryd.f73.body.getD .skip)) Tryd.func73 (by kernel_rfl) Tryd.ntmps73 (by kernel_rfl) (fun s0=>⟨Nat.le_succ _,by simp,fun i b hb=>?_⟩)
  (Q:=fun vs h'=>vs=[]∧∃ r',∀ B',Absb (P:=Tryd.prog) h' B'→h.n≤B'.n∧B'.m bb=some ⟨⟨[.map (some mb),rowVl 13 r' (rowK (l.filter (keepV r)))]⟩,98⟩∧B'.m mb=some ⟨⟨[]⟩,mapE (dropM (s.m.del r) r)⟩∧(l.filter (keepV r)≠[]→h.n≤r'∧B'.m r'=some ⟨⟨(rowK (l.filter (keepV r))).flatten⟩,130⟩)∧∀ i b,h.m i=some b→i≠bb→i≠mb→B'.m i=some b)
  (fun vs h' w sh s' hq=>?_) (fun s0=>?_)
 ·have hd:=s0.dom
  have hBn:=hd _ _ hB
  have hMn:=hd _ _ hM
  have up:∀ {u:Value},bnd h.n u→bnd (h.n+1) u:=fun hu=>bnd_mono (Nat.le_succ _) _ hu
  show i < h.n+1∧∀ u∈b.cells,bnd (h.n+1) u
  have hb:(if i=bb then some ⟨⟨[.map (some mb),rowVl 13 h.n (rowK (l.filter (keepV r)))]⟩,98⟩ else if i=mb then some ⟨⟨[]⟩,mapE (dropM (s.m.del r) r)⟩ else if i=h.n then (if l.filter (keepV r)=[] then none else some ⟨⟨(rowK (l.filter (keepV r))).flatten⟩,130⟩) else h.m i)=some b:=hb
  split at hb
  ·rename_i e
   injection hb with hb
   subst hb;subst e
   refine ⟨by omega,fun u hu=>?_⟩
   simp only [List.mem_toArray,List.mem_cons,List.not_mem_nil,or_false] at hu
   rcases hu with rfl|rfl
   ·simp;omega
   ·rw [rowVl_eq]
    split<;>simp
  split at hb
  ·rename_i e
   injection hb with hb
   subst hb;subst e
   exact ⟨by omega,fun u hu=>by simp at hu⟩
  split at hb
  ·rename_i e
   split at hb
   ·cases hb
   ·rename_i hn
    injection hb with hb
    subst hb;subst e
    refine ⟨Nat.lt_succ_self _,fun u hu=>up ?_⟩
    have hln:l≠[]:=fun e=>hn (by rw [e];rfl)
    refine s0.bd _ _ (hR hln).2 u ?_
    simp only [List.mem_toArray,List.mem_flatten,rowK,List.mem_map] at hu ⊢
    obtain ⟨c,⟨v,hv,hc⟩,huc⟩:=hu
    exact ⟨c,⟨v,(List.mem_filter.1 hv).1,hc⟩,huc⟩
  ·exact ⟨Nat.lt_succ_of_lt (hd _ _ hb),fun u hu=>up (s0.bd _ _ hb u hu)⟩
 ·obtain ⟨rfl,r',hB'⟩:=hq
  obtain ⟨q1,q2,q3,q4,q5⟩:=hB' _ (Absb.of w s')
  have hd:=sh.dom
  have hBn:=hd _ _ hB
  have hMn:=hd _ _ hM
  have hτ:∀ i,i < h.n→(fun i=>if i=h.n then r' else i) i=i:=fun i hi=>by show (if i=h.n then r' else i)=i;rw [if_neg (by omega)]
  have hpre:∀ i b,(chgH h bb mb (dropM (s.m.del r) r) (l.filter (keepV r))).m i=some b→i=h.n→l.filter (keepV r)≠[]:=fun i b hb hi e=>by
   subst hi
   have hb:(if h.n=bb then some ⟨⟨[.map (some mb),rowVl 13 h.n (rowK (l.filter (keepV r)))]⟩,98⟩ else if h.n=mb then some ⟨⟨[]⟩,mapE (dropM (s.m.del r) r)⟩ else if h.n=h.n then (if l.filter (keepV r)=[] then none else some ⟨⟨(rowK (l.filter (keepV r))).flatten⟩,130⟩) else h.m h.n)=some b:=hb
   rw [if_neg (by omega),if_neg (by omega),if_pos rfl,if_pos e] at hb
   cases hb
  have hlow:∀ i b,(chgH h bb mb (dropM (s.m.del r) r) (l.filter (keepV r))).m i=some b→i=h.n∨i < h.n:=fun i b hb=>by
   have hb:(if i=bb then some ⟨⟨[.map (some mb),rowVl 13 h.n (rowK (l.filter (keepV r)))]⟩,98⟩ else if i=mb then some ⟨⟨[]⟩,mapE (dropM (s.m.del r) r)⟩ else if i=h.n then (if l.filter (keepV r)=[] then none else some ⟨⟨(rowK (l.filter (keepV r))).flatten⟩,130⟩) else h.m i)=some b:=hb
   split at hb
   ·exact .inr (by omega)
   split at hb
   ·exact .inr (by omega)
   split at hb
   ·exact .inl (by assumption)
   ·exact .inr (hd _ _ hb)
  have same:∀ {b:Blk},(∀ u∈b.cells,bnd h.n u)→subB (fun i=>if i=h.n then r' else i) b=b:=fun {b} hb=>by
   obtain ⟨⟨cs⟩,e⟩:=b
   unfold subB
   congr 1
   rw [Array.map_congr_left (g:=id) fun u hu=>sub_same hτ u (hb u hu)];simp
  refine ⟨fun i=>if i=h.n then r' else i,⟨hτ,fun i b hb=>?_,fun i b hb hi hw=>?_,fun i j b c hi hj e=>?_,by simp [resultOf]⟩⟩
  ·have hpn:=hpre i b hb
   have hb:(if i=bb then some ⟨⟨[.map (some mb),rowVl 13 h.n (rowK (l.filter (keepV r)))]⟩,98⟩ else if i=mb then some ⟨⟨[]⟩,mapE (dropM (s.m.del r) r)⟩ else if i=h.n then (if l.filter (keepV r)=[] then none else some ⟨⟨(rowK (l.filter (keepV r))).flatten⟩,130⟩) else h.m i)=some b:=hb
   split at hb
   ·rename_i e
    injection hb with hb
    subst hb;subst e
    show h'.den.m (if i=h.n then r' else i)=_
    rw [if_neg (by omega),q2]
    simp only [subB,List.map_toArray,List.map_cons,List.map_nil,sub_map,rowVl_sub,if_pos rfl,if_neg (show ¬ mb=h.n by omega),if_true]
   split at hb
   ·rename_i e
    injection hb with hb
    subst hb;subst e
    show h'.den.m (if i=h.n then r' else i)=_
    rw [if_neg (by omega),q3];simp [subB]
   split at hb
   ·rename_i e
    split at hb
    ·cases hb
    ·rename_i hn
     injection hb with hb
     subst hb
     show h'.den.m (if i=h.n then r' else i)=_
     rw [if_pos e,(q4 hn).2,same]
     intro u hu
     have hln:l≠[]:=fun e=>hn (by rw [e];rfl)
     refine sh.bd _ _ (hR hln).2 u ?_
     simp only [List.mem_toArray,List.mem_flatten,rowK,List.mem_map] at hu ⊢
     obtain ⟨c,⟨v,hv,hc⟩,huc⟩:=hu
     exact ⟨c,⟨v,(List.mem_filter.1 hv).1,hc⟩,huc⟩
   ·show h'.den.m (if i=h.n then r' else i)=_
    rw [if_neg (by assumption),same fun u hu=>sh.bd _ _ hb u hu]
    exact q5 _ _ hb (by assumption) (by assumption)
  ·rcases hlow i b hb with e|e
   ·show rwM≤if i=h.n then r' else i
    rw [if_pos e]
    exact Nat.le_trans hw (q4 (hpre i b hb e)).1
   ·omega
  ·have e:(if i=h.n then r' else i)=(if j=h.n then r' else j):=e
   rcases hlow i b hi with e1|e1<;>rcases hlow j c hj with e2|e2
   ·omega
   ·rw [if_pos e1,if_neg (by omega)] at e
    have:=(q4 (hpre i b hi e1)).1
    omega
   ·rw [if_pos e2,if_neg (by omega)] at e
    have:=(q4 (hpre j c hj e2)).1
    omega
   ·rw [if_neg (by omega),if_neg (by omega)] at e;exact e
 ·have hd:=s0.dom
  have hBn:=hd _ _ hB
  have hMn:=hd _ _ hM
  conv=>arg 2;whnf
  refine WN.seq (K':=fun e f' h'=>e=.normal∧f'.nt=71∧AllV f'.l (chgF bb r)∧∀ B',Absb (P:=Tryd.prog) h' B'→h.n≤B'.n∧B'.m mb=some ⟨⟨[]⟩,mapE (s.m.del r)⟩∧∀ i b,h.m i=some b→i≠mb→B'.m i=some b) (WN.ofW ?_) (fun f1 h1 ⟨_,hnt1,hF1,hB1⟩=>?_) (fun e f' h' he ⟨h1,_⟩=>absurd h1 he)
  ·repeat (first|((with_reducible apply RS.delete);(iterate 4 exact rfl);exact hM;exact hMn;exact hMr;exact hs0)|refine Y3i ?_|refine Y20 ?_|refine Y0 ?_|refine Y1 ?_)
   refine ⟨rfl,rfl,by (repeat' (first|exact trivial|exact rfl|apply And.intro));done,fun B' a=>⟨a.le,a.up _ _ ?_,fun i b hi hn=>a.up _ _ ?_⟩⟩
   ·show (if mb=mb then some _ else h.m mb)=_
    rw [if_pos rfl]
   ·show (if i=mb then some _ else h.m i)=_
    rw [if_neg hn];exact hi
  ·refine WN.re hnt1 hF1 fun B1 x1 s1=>?_
   obtain ⟨g1,g2,g3⟩:=hB1 _ x1
   have hden1:=s1.den
   refine WN.seq (K':=RangeK B1 bb mb r (s.m.del r)) ?_ (fun f2 h2 ⟨_,hnt2,hF2,hB2⟩=>?_) (fun e f' h' he ⟨h1,_⟩=>absurd h1 he)
   ·intro a ρ W w ho b g
    rw [hden1] at ho b ⊢
    exact chg_range B1 bb mb r _ (s.m.del r) (g3 _ _ hB hne.symm) g2 hMr (o.ok.del r) a ρ W ho b g
   ·refine WN.re hnt2 hF2 fun B2 x2 s2=>WN.ofW ?_
    obtain ⟨k1,k2,k3⟩:=hB2 _ x2
    have hup:∀ i b,h.m i=some b→i≠mb→B2.m i=some b:=fun i b h1 h2=>k3 _ _ (g3 _ _ h1 h2) h2
    have hRm:l≠[]→r0≠mb:=fun hn e=>by
     have h1:=(hR hn).2
     rw [e,hM] at h1
     injection h1 with h1
     injection h1 with _ h1
     exact absurd (mapE_ge s.m) (by rw [h1];decide)
    have:=chg_rest B2 s2 bb mb r r0 l (hup _ _ hB hne.symm) (fun hn=>hup _ _ (hR hn).2 (hRm hn)) hBr hll
    refine W.mono this ?_
    have key:∀ (vs:List Value) (h':SH),(vs=[]∧∃ r',∀ B',Absb (P:=Tryd.prog) h' B'→B2.n≤B'.n∧B'.m bb=some ⟨⟨[.map (some mb),rowVl 13 r' (rowK (l.filter (keepV r)))]⟩,98⟩∧(l.filter (keepV r)≠[]→B2.n≤r'∧B'.m r'=some ⟨⟨(rowK (l.filter (keepV r))).flatten⟩,130⟩)∧∀ i b,B2.m i=some b→i≠bb→B'.m i=some b) →
     (vs=[]∧∃ r',∀ B',Absb (P:=Tryd.prog) h' B'→h.n≤B'.n∧B'.m bb=some ⟨⟨[.map (some mb),rowVl 13 r' (rowK (l.filter (keepV r)))]⟩,98⟩∧B'.m mb=some ⟨⟨[]⟩,mapE (dropM (s.m.del r) r)⟩∧(l.filter (keepV r)≠[]→h.n≤r'∧B'.m r'=some ⟨⟨(rowK (l.filter (keepV r))).flatten⟩,130⟩)∧∀ i b,h.m i=some b→i≠bb→i≠mb→B'.m i=some b):=by
     rintro vs h' ⟨rfl,r',hx⟩
     refine ⟨rfl,r',fun B' a=>?_⟩
     obtain ⟨p1,p2,p3,p4⟩:=hx B' a
     exact ⟨by omega,p2,p4 _ _ k2 hne,fun hn=>⟨by have:=(p3 hn).1;omega,(p3 hn).2⟩,fun i b q1 q2 q3=>p4 _ _ (hup _ _ q1 q3) q2⟩
    intro e f h' hk
    cases e with
    | ret=>obtain ⟨vs,h1,h2⟩:=hk;exact ⟨vs,h1,key _ _ h2⟩
    | normal=>obtain ⟨vs,h1,h2⟩:=hk;exact ⟨vs,h1,key _ _ h2⟩
    | _=>exact hk.elim
theorem changed_ex (h:Hp) (N bb mb:Nat) (s:CseS) (r:Int) (o:CseAt h N bb mb s) (hw:s.w.length≤1000000000):EX Tryd.prog 73 [.pointer (some ⟨bb,0,none⟩),.int .i64 r] h (fun v h'=>v=.tuple #[]∧CseAt h' N bb mb (chgC s r)∧KeepC bb mb h h'):=by
 obtain ⟨r0,l,hl,hB,hR⟩:=o.row
 have hgb:=o.gb
 have hgm:=o.gm
 have hne:=o.ne
 refine (TF.ex (changed_tf h N bb mb s r o r0 l hl hB hR hw)).mono ?_
 rintro v h' sh ⟨rfl,rfl⟩
 have hBn:=sh.dom _ _ hB
 have hMn:=sh.dom _ _ o.hm
 refine ⟨rfl,⟨o.rw,o.gb,o.gm,?_,(o.ok.del r).drop r,h.n,l.filter (keepV r),?_,?_,fun hn=>⟨by omega,?_⟩⟩,⟨Nat.le_succ _,fun i b hb h1 h2=>?_⟩⟩
 ·show (if mb=bb then _ else if mb=mb then some _ else _)=_
  rw [if_neg hne,if_pos rfl];rfl
 ·show _=(s.w.filter (keepW r))
  rw [← hl,List.filter_map];rfl
 ·show (if bb=bb then some _ else _)=_
  rw [if_pos rfl]
 ·show (if h.n=bb then _ else if h.n=mb then some _ else if h.n=h.n then _ else _)=_
  rw [if_neg (by omega),if_neg (by omega),if_pos rfl,if_neg hn]
 ·have:=sh.dom _ _ hb
  show (if i=bb then _ else if i=mb then some _ else if i=h.n then _ else h.m i)=_
  rw [if_neg h1,if_neg h2,if_neg (by omega)];exact hb
def leF (a b:FactS):Prop:=a.kind=0∨b.kind=2∨a=b
structure LeL (l m:List FactS):Prop where
 len:l.length=m.length
 le:∀ (i:Nat) (a b:FactS),l[i]?=some a→m[i]?=some b→leF a b
structure SolW (n r:Nat) (s:SolS):Prop where
 ins:s.ins.length=n
 seen:s.seen.length=n
 wid:∀ (k:Nat) (l:List FactS),s.ins[k]?=some l→s.seen[k]?=some true→l.length=r
 work:∀ k∈s.work,0≤k∧k < n∧s.seen[k.toNat]?=some true
structure SolUp (s t:SolS):Prop where
 seen:∀ k:Nat,s.seen[k]?=some true→t.seen[k]?=some true
 work:∀ k∈s.work,k∈t.work
 new:∀ k:Nat,t.seen[k]?=some true→(k:Int) ∉ t.work→s.seen[k]?=some true∧t.ins[k]?=s.ins[k]?
 up:∀ (k:Nat) (l m:List FactS),s.seen[k]?=some true→s.ins[k]?=some l→t.ins[k]?=some m→LeL l m
structure SolI (bl:List BlockS) (r:Nat) (s:SolS):Prop extends SolW bl.length r s where
 zero:s.seen[0]?=some true
 top:∀ l,s.ins[0]?=some l→∀ f∈l,f.kind=2
 done:∀ (k:Nat) (b:BlockS),bl[k]?=some b→s.seen[k]?=some true→(k:Int) ∉ s.work→∀ o∈nextF b.term (outF bl s k),s.seen[o.toNat]?=some true∧∀ m,s.ins[o.toNat]?=some m→LeL (outF bl s k) m
def plainN (x:InsS):Bool:=(decide (x.op=2∨x.op=22) && decide (x.a.reg < 0)) || (twoS x.op && decide (x.a.reg < 0) && decide (x.b.reg < 0) && (reckonS x.op x.a.num x.b.num).2)
theorem pure_iff {op:Int}:pureS op=true↔1≤op∧op≤25:=by simp [pureS]
structure NumOK (bl bl':List BlockS):Prop where
 len:bl'.length=bl.length
 ins:∀ (k:Nat) (b b':BlockS),bl[k]?=some b→bl'[k]?=some b'→b'.ins.length=b.ins.length
 tgt:tgtOK bl'
 plain:∀ (k:Nat) (b':BlockS),bl'[k]?=some b'→hasS (reachedS bl') k=true→¬ (b'.term.kind=2∧b'.term.a.reg < 0∧b'.term.b.reg < 0)∧∀ x∈b'.ins,plainN x=false
def rowsV:List Nat→List (List FactS)→List Value
 | a::al,l::ls=>rowVl 2 a l::rowsV al ls
 | _,_=>[]
structure SolAt (h:Hp) (N sb fb ib nb:Nat) (al:List Nat) (n:Nat) (s:SolS):Prop where
 rw:rwM≤N
 alen:al.length=n
 ilen:s.ins.length=n
 slen:s.seen.length=n
 gs:N≤sb
 gi:N≤ib
 gn:N≤nb
 hi:h.m ib=some ⟨⟨rowsV al s.ins⟩,143⟩
 hn:h.m nb=some ⟨⟨s.seen.map .bool⟩,4⟩
 row:∀ (i a:Nat) (l:List FactS),al[i]?=some a→s.ins[i]?=some l→l≠[]→N≤a∧h.m a=some ⟨⟨factsC l⟩,145⟩
 sep:∀ (i j a:Nat) (l m:List FactS),al[i]?=some a→al[j]?=some a→s.ins[i]?=some l→s.ins[j]?=some m→l≠[]→m≠[]→i=j
 stk:∃ A cap,h.m sb=some ⟨⟨[.pointer (some ⟨fb,0,none⟩),.slice (some ⟨ib,0,none⟩) n n,.slice (some ⟨nb,0,none⟩) n n,.slice A s.work.length cap]⟩,141⟩∧StkRow h 3 A cap (intsV s.work)∧∀ a,A=some a→N≤a.block
section
variable {h H:Hp} {N sb fb ib nb:Nat} {al:List Nat} {n:Nat} {s:SolS}
theorem set_get {α:Type} {l:List α} {k i:Nat} {x y:α} (h:(l.set k x)[i]?=some y):(i=k∧y=x)∨(i≠k∧l[i]?=some y):=by
 rw [List.getElem?_set] at h
 by_cases e:k=i
 ·rw [if_pos e] at h
  split at h
  ·injection h with h;exact .inl ⟨e.symm,h.symm⟩
  ·cases h
 ·rw [if_neg e] at h;exact .inr ⟨fun e'=>e e'.symm,h⟩
def SolE (e:TypeId):Prop:=e=143∨e=4∨e=145∨e=141∨e=3
end
instance tyP_fact:TyP Tryd.prog 145 [.int .i64,.int .i64]:=⟨by kernel_rfl⟩
def ApartF (al:List Nat) (ins:List (List FactS)) (i:Nat):Prop:=∀ (j:Nat) (l:List FactS),al[j]?=some i→ins[j]?=some l→l=[]
def ApartW (h:Hp) (sb i:Nat):Prop:=∀ (f g e:Value) (A:Option Addr) (n c:Nat) (el:TypeId),h.m sb=some ⟨⟨[f,g,e,.slice A n c]⟩,el⟩→A≠some ⟨i,0,none⟩
def ReachQ (h:Hp) (N sb fb ib nb:Nat) (al:List Nat) (n:Nat) (s t:SolS) (h':Hp):Prop :=
 ∃ al',SolAt h' N sb fb ib nb al' n t∧OffS (fun i=>N≤i) h h'∧(∀ i b,h.m i=some b→b.elem=145→ApartF al s.ins i→h'.m i=some b∧ApartF al' t.ins i)∧∀ i b,h.m i=some b→b.elem=3→ApartW h sb i→h'.m i=some b∧ApartW h' sb i
end Go.Proofs.YtjhloakacicdiaaDoor
