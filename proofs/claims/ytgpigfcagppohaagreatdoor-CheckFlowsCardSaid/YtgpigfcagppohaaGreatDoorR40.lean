/-
  What the functions that the law reaches compute,told by plain data;it holds of programs that pass the check of right form and are light.
-/
import Derived.Test.YtgpigfcagppohaaGreatDoorR38
import Derived.Test.YtgpigfcagppohaaGreatDoorR39
set_option linter.unusedVariables false
set_option linter.unusedSimpArgs false
namespace Go.Proofs.YtgpigfcagppohaaGreatDoor
def bT:ByteArray:=b1 116
def bK:ByteArray:=b1 107
def bS:ByteArray:=b1 115
def bP:ByteArray:=b1 112
def stF:CS:=⟨0,0,[⟨bT,.arr (i4 false) 4,0⟩,⟨bK,.int (i4 true),16⟩,⟨bS,.int ⟨8,true,true⟩,24⟩,⟨bP,.int ⟨8,true,false⟩,32⟩],40,i4 false,[tI],[(bX,0,1)],1⟩
def SecE (m:Nat) (e:ExprS):Prop:=∀ N,∃ v l,exprM (rawM (N+m)) e stF=some (v,stF)∧v.ty=.int l∧l.sec=true
section
variable {N n m p p1 p2 p3:Nat} {tk tk':TokS} {ty ty':TypeS} {kids kids':List ExprS} {e x y:ExprS} {v:NodeS} {d:DeclS} {R:ExprS→CS→Option (NodeS × CS)} {st:CS}
theorem SecE.k:SecE 1 (.mk 2 p bK zeroTok zeroType []):=fun N=>⟨_,_,rfl,rfl,rfl⟩
theorem ex_raw (h:R x st=some (v,st)) (hp:placeS v=false):exprM R x st=some (v,st):=by
 unfold exprM
 rw [h]
 simp only [Option.bind_eq_bind,Option.bind_some]
 rw [if_pos (.inr hp)]
theorem ex_load {w:NodeS} (h:R x st=some (v,st)) (h0:st.fk=0) (hp:placeS v=true) (hl:loadedS v=some w):exprM R x st=some (w,st):=by
 unfold exprM
 rw [h]
 simp only [Option.bind_eq_bind,Option.bind_some]
 rw [if_neg (by rw [hp];rintro (a|a);exact a h0;cases a),hl]
 rfl
theorem conv_some {l l':LfS} (h:v.ty=.int l):∃ w,convS v l'=some w:=by
 unfold convS
 rw [h]
 exact ⟨_,rfl⟩
theorem promote_sec (l:LfS):(promoteS l).sec=l.sec:=by unfold promoteS;split<;>rfl
theorem ok_num (hu:tk.uns=false) (hl:tk.long=false) (hv:tk.value < 2147483648):okM (rawM (N+1)) (.mk 1 p ⟨#[]⟩ tk zeroType []) stF=some (.mk 1 p tI false eS tk.value 0 [],stF):=ok_of (ex_num hu hl hv rfl) rfl
theorem ok_x:okM (rawM (N+1)) (.mk 2 p bX zeroTok zeroType []) stF=some (.mk 7 p tI false eS 0 0 [.mk 3 p tI false eS 0 0 []],stF):=rfl
theorem ok_t:okM (rawM (N+1)) (.mk 2 p bT zeroTok zeroType []) stF=some (.mk 8 p (.ptr (i4 false)) false eS 0 0 [.mk 2 p (.arr (i4 false) 4) false eS 0 0 []],stF):=rfl
theorem ints_some {a b:NodeS} {la lb:LfS} {op:ByteArray} (ha:a.ty=.int la) (hb:b.ty=.int lb) (ho:(others.any fun s=>eqB op s)=false) (hs:la.sec=true∨lb.sec=true):∃ w l,intsS a b op p=some w∧w.ty=.int l∧l.sec=true∧placeS w=false:=by
 have hsec:(la.sec || lb.sec)=true:=by rcases hs with h|h<;>simp [h]
 unfold intsS
 rw [ha,hb]
 dsimp only
 rw [if_neg (by rw [ho];decide)]
 split
 ·obtain ⟨u,hu⟩:=conv_some (l':={ promoteS la with sec:=la.sec || lb.sec }) ha
  obtain ⟨w,hw⟩:=conv_some (l':=i8 false) hb
  rw [hu,hw]
  exact ⟨_,_,rfl,rfl,hsec,rfl⟩
 ·split
  ·obtain ⟨u,hu⟩:=conv_some (l':=commonS la lb) ha
   obtain ⟨w,hw⟩:=conv_some (l':=commonS la lb) hb
   rw [hu,hw]
   exact ⟨_,_,rfl,rfl,hsec,rfl⟩
  ·obtain ⟨u,hu⟩:=conv_some (l':=commonS la lb) ha
   obtain ⟨w,hw⟩:=conv_some (l':=commonS la lb) hb
   rw [hu,hw]
   exact ⟨_,_,rfl,rfl,hsec,rfl⟩
theorem bin_some {a b:NodeS} {la lb:LfS} {op:ByteArray} (ha:a.ty=.int la) (hb:b.ty=.int lb) (ho:(others.any fun s=>eqB op s)=false) (hs:la.sec=true∨lb.sec=true):∃ w l,binS a b op p=some w∧w.ty=.int l∧l.sec=true∧placeS w=false:=by
 unfold binS addS
 rw [ha,hb]
 split
 ·exact ints_some ha hb ho hs
 ·exact ints_some ha hb ho hs
theorem ex_bin {a b:NodeS} {la lb:LfS} {op:ByteArray} (h1:okM (rawM (N+1)) x stF=some (a,stF)) (h2:okM (rawM (N+1)) y stF=some (b,stF)) (ha:a.ty=.int la) (hb:b.ty=.int lb) (ho:(others.any fun s=>eqB op s)=false) (hs:la.sec=true∨lb.sec=true) :
 ∃ w l,exprM (rawM (N+2)) (.mk 12 p op zeroTok zeroType [x,y]) stF=some (w,stF)∧w.ty=.int l∧l.sec=true:=by
 obtain ⟨w,l,g1,g2,g3,g4⟩:=bin_some (p:=p) ha hb ho hs
 refine ⟨w,l,ex_raw ?_ g4,g2,g3⟩
 show binaryM (rawM (N+1)) p op [x,y] stF=_
 unfold binaryM
 dsimp only
 rw [h1]
 simp only [Option.bind_eq_bind,Option.bind_some]
 rw [h2]
 simp only [Option.bind_some,g1]
theorem SecE.ok {m:Nat} (h:SecE m e) (N:Nat):∃ v l,okM (rawM (N+m)) e stF=some (v,stF)∧v.ty=.int l∧l.sec=true:=by
 obtain ⟨v,l,h1,h2,h3⟩:=h N
 exact ⟨v,l,ok_of h1 rfl,h2,h3⟩
theorem SecE.num {op:ByteArray} (h:SecE (m+1) e) (hu:tk.uns=false) (hl:tk.long=false) (hv:tk.value < 2147483648) (ho:(others.any fun s=>eqB op s)=false):SecE (m+2) (.mk 12 p op zeroTok zeroType [e,.mk 1 p1 ⟨#[]⟩ tk zeroType []]):=fun N=>by
 obtain ⟨v,l,h1,h2,h3⟩:=h.ok N
 exact ex_bin (N:=N+m) h1 (ok_num hu hl hv) h2 rfl ho (.inl h3)
theorem SecE.opx {op:ByteArray} (h:SecE (m+1) e) (ho:(others.any fun s=>eqB op s)=false):SecE (m+2) (.mk 12 p op zeroTok zeroType [e,.mk 2 p1 bX zeroTok zeroType []]):=fun N=>by
 obtain ⟨v,l,h1,h2,h3⟩:=h.ok N
 exact ex_bin (N:=N+m) h1 ok_x h2 rfl ho (.inl h3)
theorem SecE.xop {op:ByteArray} (h:SecE (m+1) e) (ho:(others.any fun s=>eqB op s)=false):SecE (m+2) (.mk 12 p op zeroTok zeroType [.mk 2 p1 bX zeroTok zeroType [],e]):=fun N=>by
 obtain ⟨v,l,h1,h2,h3⟩:=h.ok N
 exact ex_bin (N:=N+m) ok_x h1 rfl h2 ho (.inr h3)
theorem SecE.neg (h:SecE (m+1) e):SecE (m+2) (.mk 7 p (b1 45) zeroTok zeroType [e]):=fun N=>by
 obtain ⟨v,l,h1,h2,h3⟩:=h.ok N
 obtain ⟨a,ha⟩:=conv_some (l':=promoteS l) h2
 obtain ⟨z,hz⟩:=conv_some (v:=.mk 1 p (.int { promoteS l with sec:=false }) false eS 0 0 []) (l':=promoteS l) rfl
 refine ⟨.mk 10 p (.int (promoteS l)) false (b1 45) 0 0 [z,a],promoteS l,ex_raw ?_ rfl,rfl,(promote_sec l).trans h3⟩
 show unaryM (rawM (N+(m+1))) p (b1 45) [e] stF=_
 unfold unaryM
 dsimp only
 rw [if_neg (by decide),if_neg (by decide),if_neg (by decide),if_neg (by decide)]
 unfold intM
 rw [h1]
 simp only [Option.bind_eq_bind,Option.bind_some]
 rw [h2]
 simp only [Option.bind_some,ha,hz]
theorem truth_some {l:LfS} {no:ByteArray} (h:okM R x stF=some (v,stF)) (hv:v.ty=.int l):truthM R x no stF=some (.mk 25 x.pos (.int (i4 (l.sec || v.hid))) false no 0 0 [v],l.sec || v.hid,stF):=by
 unfold truthM
 rw [h]
 simp only [Option.bind_eq_bind,Option.bind_some]
 rw [hv]
theorem SecE.not (h:SecE (m+1) e):SecE (m+2) (.mk 7 p (b1 33) zeroTok zeroType [e]):=fun N=>by
 obtain ⟨v,l,h1,h2,h3⟩:=h.ok N
 refine ⟨_,_,ex_raw (v:=.mk 25 e.pos (.int (i4 (l.sec || v.hid))) false (b1 33) 0 0 [v]) ?_ rfl,rfl,by show (l.sec || v.hid)=true;rw [h3];rfl⟩
 show unaryM (rawM (N+(m+1))) p (b1 33) [e] stF=_
 unfold unaryM
 dsimp only
 rw [if_neg (by decide),if_neg (by decide),if_pos (by decide),truth_some h1 h2]
 rfl
theorem SecE.cond (h:SecE (m+1) e) (hu:tk.uns=false) (hl:tk.long=false) (hv:tk.value < 2147483648):SecE (m+2) (.mk 15 p ⟨#[]⟩ zeroTok zeroType [.mk 2 p1 bX zeroTok zeroType [],e,.mk 1 p2 ⟨#[]⟩ tk zeroType []]):=fun N=>by
 obtain ⟨v,l,h1,h2,h3⟩:=h.ok N
 have hx:=truth_some (no:=eS) (ok_x (N:=N+m) (p:=p1)) rfl
 have hn:=ok_num (N:=N+m) (p:=p2) hu hl hv
 obtain ⟨a,ha⟩:=conv_some (l':={ commonS l (i4 false) with sec:=(l.sec || (i4 false).sec) || ((i4 false).sec || false) }) h2
 obtain ⟨b,hb⟩:=conv_some (v:=.mk 1 p2 tI false eS tk.value 0 []) (l':={ commonS l (i4 false) with sec:=(l.sec || (i4 false).sec) || ((i4 false).sec || false) }) rfl
 have hr:∃ u,rawM (N+(m+2)) (.mk 15 p ⟨#[]⟩ zeroTok zeroType [.mk 2 p1 bX zeroTok zeroType [],e,.mk 1 p2 ⟨#[]⟩ tk zeroType []]) stF=some (u,stF)∧u.ty=.int { commonS l (i4 false) with sec:=(l.sec || (i4 false).sec) || ((i4 false).sec || false) }∧placeS u=false:=by
  show ∃ u,condM (rawM (N+m+1)) p [.mk 2 p1 bX zeroTok zeroType [],e,.mk 1 p2 ⟨#[]⟩ tk zeroType []] stF=some (u,stF)∧_
  unfold condM
  dsimp only
  rw [hx]
  simp only [Option.bind_eq_bind,Option.bind_some]
  unfold intM
  rw [show N+m+1=N+(m+1) from rfl,h1]
  simp only [Option.bind_eq_bind,Option.bind_some]
  rw [h2]
  simp only [Option.bind_some]
  rw [show N+(m+1)=N+m+1 from rfl,hn]
  simp only [Option.bind_some]
  rw [show NodeS.ty (.mk 1 p2 tI false eS tk.value 0 [])=.int (i4 false) from rfl]
  simp only [Option.bind_some]
  have ha':convS v { commonS l (i4 false) with sec:=(l.sec || (i4 false).sec) || ((i4 false).sec || NodeS.hid (.mk 7 p1 tI false eS 0 0 [.mk 3 p1 tI false eS 0 0 []])) }=some a:=ha
  have hb':convS (.mk 1 p2 tI false eS tk.value 0 []) { commonS l (i4 false) with sec:=(l.sec || (i4 false).sec) || ((i4 false).sec || NodeS.hid (.mk 7 p1 tI false eS 0 0 [.mk 3 p1 tI false eS 0 0 []])) }=some b:=hb
  rw [ha',hb']
  exact ⟨_,rfl,rfl,rfl⟩
 obtain ⟨u,g1,g2,g3⟩:=hr
 exact ⟨u,_,ex_raw g1 g3,g2,by show ((l.sec || (i4 false).sec) || ((i4 false).sec || false))=true;rw [h3];rfl⟩
theorem SecE.cast (h:SecE (m+1) e) (q:Nat):SecE (m+2) (.mk 11 p ⟨#[]⟩ zeroTok ⟨⟨false,bChar,false,⟨#[]⟩,q⟩,0,[]⟩ [e]):=fun N=>by
 obtain ⟨v,l,h1,h2,h3⟩:=h.ok N
 refine ⟨_,_,ex_raw (v:=.mk 9 p (.int ⟨1,true,false || l.sec⟩) false eS 0 0 [v]) ?_ rfl,rfl,h3⟩
 show castM (rawM (N+(m+1))) p ⟨⟨false,bChar,false,⟨#[]⟩,q⟩,0,[]⟩ [e] stF=_
 unfold castM
 dsimp only
 rw [show typS ⟨⟨false,bChar,false,⟨#[]⟩,q⟩,0,[]⟩=some (.int ⟨1,true,false⟩) from rfl]
 dsimp only
 unfold intM
 rw [h1]
 simp only [Option.bind_eq_bind,Option.bind_some]
 rw [h2]
 rfl
theorem SecE.and (h:SecE (m+1) e):SecE (m+2) (.mk 13 p ⟨#[]⟩ zeroTok zeroType [e,.mk 2 p1 bX zeroTok zeroType []]):=fun N=>by
 obtain ⟨v,l,h1,h2,h3⟩:=h.ok N
 have hx:=truth_some (no:=eS) (ok_x (N:=N+m) (p:=p1)) rfl
 have he:=truth_some (no:=eS) h1 h2
 have hr:∃ u,rawM (N+(m+2)) (.mk 13 p ⟨#[]⟩ zeroTok zeroType [e,.mk 2 p1 bX zeroTok zeroType []]) stF=some (u,stF)∧u.ty=.int (i4 ((l.sec || v.hid) || ((i4 false).sec || false)))∧placeS u=false:=by
  show ∃ u,logicM (rawM (N+(m+1))) 13 p [e,.mk 2 p1 bX zeroTok zeroType []] stF=some (u,stF)∧_
  unfold logicM
  dsimp only
  rw [he]
  simp only [Option.bind_eq_bind,Option.bind_some]
  rw [show N+(m+1)=N+m+1 from rfl,hx]
  exact ⟨_,rfl,rfl,rfl⟩
 obtain ⟨u,g1,g2,g3⟩:=hr
 exact ⟨u,_,ex_raw g1 g3,g2,by show ((l.sec || v.hid) || ((i4 false).sec || false))=true;rw [h3];rfl⟩
theorem ptr_add {b:NodeS} {lb:LfS} (hb:b.ty=.int lb) (hs:lb.sec=true):∃ c,addS (.mk 8 p (.ptr (i4 false)) false eS 0 0 [.mk 2 p (.arr (i4 false) 4) false eS 0 0 []]) b (b1 43) p1=some c∧c.ty=.ptr (i4 false)∧c.hid=true∧placeS c=false:=by
 obtain ⟨w,hw⟩:=conv_some (l':=i8 true) hb
 unfold addS
 rw [show NodeS.ty (.mk 8 p (.ptr (i4 false)) false eS 0 0 [.mk 2 p (.arr (i4 false) 4) false eS 0 0 []])=.ptr (i4 false) from rfl,hb]
 dsimp only
 rw [if_neg (by rintro (a|a);exact absurd a (by decide);exact absurd a (by decide)),hw]
 exact ⟨_,rfl,rfl,by show (false || lb.sec)=true;rw [hs];rfl,rfl⟩
theorem deref_some {c:NodeS} (hc:c.ty=.ptr (i4 false)) (hh:c.hid=true):∃ v w,derefS c p=some v∧placeS v=true∧loadedS v=some w∧w.ty=.int ⟨4,true,true⟩:=by
 unfold derefS
 rw [hc]
 dsimp only
 rw [if_neg (by decide)]
 refine ⟨_,.mk 7 p (.int ⟨(i4 false).size,(i4 false).sg,(i4 false).sec || c.hid⟩) false eS 0 0 [.mk 5 p (.int (i4 false)) c.hid eS 0 0 [c]],rfl,rfl,rfl,?_⟩
 rw [hh];rfl
theorem SecE.index (h:SecE (m+1) e):SecE (m+2) (.mk 4 p ⟨#[]⟩ zeroTok zeroType [.mk 2 p1 bT zeroTok zeroType [],e]):=fun N=>by
 obtain ⟨v,l,h1,h2,h3⟩:=h.ok N
 obtain ⟨c,hc1,hc2,hc3,_⟩:=ptr_add (p:=p1) (p1:=p) h2 h3
 obtain ⟨u,w,hd1,hd2,hd3,hd4⟩:=deref_some (p:=p) hc2 hc3
 refine ⟨w,_,ex_load (v:=u) ?_ rfl hd2 hd3,hd4,rfl⟩
 show indexM (rawM (N+(m+1))) p [.mk 2 p1 bT zeroTok zeroType [],e] stF=some (u,stF)
 unfold indexM
 dsimp only
 rw [show N+(m+1)=N+m+1 from rfl,ok_t]
 simp only [Option.bind_eq_bind,Option.bind_some]
 rw [show N+m+1=N+(m+1) from rfl,h1]
 simp only [Option.bind_some,hc1,hd1]
theorem SecE.star (h:SecE (m+1) e):SecE (m+3) (.mk 7 p (b1 42) zeroTok zeroType [.mk 12 p1 (b1 43) zeroTok zeroType [.mk 2 p2 bT zeroTok zeroType [],e]]):=fun N=>by
 obtain ⟨v,l,h1,h2,h3⟩:=h.ok N
 obtain ⟨c,hc1,hc2,hc3,hc4⟩:=ptr_add (p:=p2) (p1:=p1) h2 h3
 obtain ⟨u,w,hd1,hd2,hd3,hd4⟩:=deref_some (p:=p) hc2 hc3
 have hb:okM (rawM (N+(m+2))) (.mk 12 p1 (b1 43) zeroTok zeroType [.mk 2 p2 bT zeroTok zeroType [],e]) stF=some (c,stF):=by
  refine ok_of (ex_raw ?_ hc4) rfl
  show binaryM (rawM (N+(m+1))) p1 (b1 43) [.mk 2 p2 bT zeroTok zeroType [],e] stF=some (c,stF)
  unfold binaryM
  dsimp only
  rw [show N+(m+1)=N+m+1 from rfl,ok_t]
  simp only [Option.bind_eq_bind,Option.bind_some]
  rw [show N+m+1=N+(m+1) from rfl,h1]
  simp only [Option.bind_some]
  unfold binS
  rw [if_pos (by decide),hc1]
  rfl
 refine ⟨w,_,ex_load (v:=u) ?_ rfl hd2 hd3,hd4,rfl⟩
 show unaryM (rawM (N+(m+2))) p (b1 42) [.mk 12 p1 (b1 43) zeroTok zeroType [.mk 2 p2 bT zeroTok zeroType [],e]] stF=some (u,stF)
 unfold unaryM
 dsimp only
 rw [if_pos (by decide),hb]
 simp only [Option.bind_eq_bind,Option.bind_some,hd1]
theorem set_s (h:SecE (m+1) e):∃ b,stmtM (N+m+2) (n+1) (.mk 1 p zeroDecl (some (.mk 16 p1 ⟨#[]⟩ zeroTok zeroType [.mk 2 p2 bS zeroTok zeroType [],e])) []) stF=some (b,stF):=by
 obtain ⟨v,l,h1,h2,h3⟩:=h.ok N
 obtain ⟨w,hw⟩:=conv_some (l':=⟨8,true,true⟩) h2
 have hr:rawM (N+m+2) (.mk 16 p1 ⟨#[]⟩ zeroTok zeroType [.mk 2 p2 bS zeroTok zeroType [],e]) stF=some (.mk 18 p1 (.int ⟨8,true,true⟩) false eS 0 0 [.mk 2 p2 (.int ⟨8,true,true⟩) false eS 0 2 [],w],stF):=by
  show becomesM (rawM (N+(m+1))) p1 ⟨#[]⟩ [.mk 2 p2 bS zeroTok zeroType [],e] stF=some (.mk 18 p1 (.int ⟨8,true,true⟩) false eS 0 0 [.mk 2 p2 (.int ⟨8,true,true⟩) false eS 0 2 [],w],stF)
  unfold becomesM
  dsimp only
  rw [if_neg (by decide),show rawM (N+(m+1)) (.mk 2 p2 bS zeroTok zeroType []) stF=some (.mk 2 p2 (.int ⟨8,true,true⟩) false eS 0 2 [],stF) from rfl]
  simp only [Option.bind_eq_bind,Option.bind_some]
  rw [if_neg (by rintro (a|a);exact a rfl;cases (show true=false from a)),h1]
  simp only [Option.bind_some]
  unfold assignS
  rw [if_neg (fun a=>by cases (show false=true from a))]
  unfold becomeS
  rw [h2]
  dsimp only [NodeS.ty]
  rw [if_neg (by rintro ⟨_,a⟩;cases a),hw]
  rfl
 rw [stmtM,if_pos rfl]
 dsimp only
 rw [ex_raw hr rfl]
 exact ⟨_,rfl⟩
theorem ex_fault {v:NodeS} {st':CS} (h:R x st=some (v,st')) (hk:st'.fk≠0):exprM R x st=some (v,st'):=by
 unfold exprM
 rw [h]
 simp only [Option.bind_eq_bind,Option.bind_some]
 rw [if_pos (.inl hk)]
theorem set_p (h:SecE (m+1) e):∃ b st',stmtM (N+m+2) (n+1) (.mk 1 p zeroDecl (some (.mk 16 p1 ⟨#[]⟩ zeroTok zeroType [.mk 2 p2 bP zeroTok zeroType [],e])) []) stF=some (b,st')∧st'.fk=15:=by
 obtain ⟨v,l,h1,h2,h3⟩:=h.ok N
 have hr:rawM (N+m+2) (.mk 16 p1 ⟨#[]⟩ zeroTok zeroType [.mk 2 p2 bP zeroTok zeroType [],e]) stF=some (.mk 18 p1 (.int ⟨8,true,false⟩) false eS 0 0 [.mk 2 p2 (.int ⟨8,true,false⟩) false eS 0 3 [],v],stF.fail 15 p1):=by
  show becomesM (rawM (N+(m+1))) p1 ⟨#[]⟩ [.mk 2 p2 bP zeroTok zeroType [],e] stF=some (.mk 18 p1 (.int ⟨8,true,false⟩) false eS 0 0 [.mk 2 p2 (.int ⟨8,true,false⟩) false eS 0 3 [],v],stF.fail 15 p1)
  unfold becomesM
  dsimp only
  rw [if_neg (by decide),show rawM (N+(m+1)) (.mk 2 p2 bP zeroTok zeroType []) stF=some (.mk 2 p2 (.int ⟨8,true,false⟩) false eS 0 3 [],stF) from rfl]
  simp only [Option.bind_eq_bind,Option.bind_some]
  rw [if_neg (by rintro (a|a);exact a rfl;cases (show true=false from a)),h1]
  simp only [Option.bind_some]
  unfold assignS
  rw [if_neg (fun a=>by cases (show false=true from a))]
  unfold becomeS
  rw [h2]
  dsimp only [NodeS.ty]
  rw [if_pos ⟨h3,rfl⟩]
  rfl
 rw [stmtM,if_pos rfl]
 dsimp only
 rw [ex_fault hr (by show (15:Nat)≠0;decide)]
 exact ⟨_,_,rfl,rfl⟩
theorem out_e (h:SecE (m+1) e):∃ b st',stmtM (N+m+2) (n+1) (.mk 1 p zeroDecl (some (.mk 3 p1 ⟨#[]⟩ zeroTok zeroType [.mk 2 p2 bOut zeroTok zeroType [],e])) []) stF=some (b,st')∧st'.fk=15:=by
 obtain ⟨v,l,h1,h2,h3⟩:=h.ok N
 have hr:rawM (N+m+2) (.mk 3 p1 ⟨#[]⟩ zeroTok zeroType [.mk 2 p2 bOut zeroTok zeroType [],e]) stF=some (.mk 23 p1 .void false eS 0 0 [],stF.fail 15 e.pos):=by
  show callM (rawM (N+(m+1))) p1 [.mk 2 p2 bOut zeroTok zeroType [],e] stF=_
  unfold callM
  dsimp only
  rw [if_neg (by
   rintro (x|x|x)
   ·exact x rfl
   ·exact absurd x (by decide)
   ·exact absurd x (by decide))]
  unfold outM intM
  rw [h1]
  simp only [Option.bind_eq_bind,Option.bind_some]
  rw [h2]
  simp only [Option.bind_some]
  rw [if_pos h3]
 rw [stmtM,if_pos rfl]
 dsimp only
 rw [ex_fault hr (by show (15:Nat)≠0;decide)]
 exact ⟨_,_,rfl,rfl⟩
theorem ret_e (h:SecE (m+1) e):∃ b st',stmtM (N+m+1) (n+1) (.mk 11 p zeroDecl (some e) []) stF=some (b,st')∧st'.fk=15:=by
 obtain ⟨v,l,h1,h2,h3⟩:=h N
 rw [stmtM,if_neg (by decide),if_neg (by decide),if_neg (by decide),if_pos rfl]
 dsimp only
 rw [show N+m+1=N+(m+1) from rfl,h1]
 simp only [Option.bind_eq_bind,Option.bind_some]
 rw [if_neg (show ¬ stF.fk≠0 from fun x=>x rfl)]
 unfold becomeS
 rw [h2]
 dsimp only
 rw [if_pos ⟨h3,rfl⟩]
 exact ⟨_,_,rfl,rfl⟩
theorem ret_0 (hu:tk.uns=false) (hl:tk.long=false) (hv:tk.value < 2147483648):∃ b,stmtM (N+1) (n+1) (.mk 11 p zeroDecl (some (.mk 1 p1 ⟨#[]⟩ tk zeroType [])) []) stF=some (b,stF):=by
 rw [stmtM,if_neg (by decide),if_neg (by decide),if_neg (by decide),if_pos rfl]
 dsimp only
 rw [ex_num hu hl hv rfl]
 exact ⟨_,rfl⟩
def stF0:CS:={ stF with lc:=[],nm:=[] }
theorem let_x {q:Nat} (hn:d.name=bX) (ht:typS d.ty=some tI) (hu:tk.uns=false) (hl:tk.long=false) (hv:tk.value < 2147483648):∃ b,letM (N+1) p d (some (.mk 1 q ⟨#[]⟩ tk zeroType [])) stF0=some (b,stF):=by
 unfold letM
 rw [ht]
 simp only [Option.bind_eq_bind,Option.bind_some]
 rw [ex_num hu hl hv rfl]
 simp only [Option.bind_some]
 rw [if_neg (show ¬ stF0.fk≠0 from fun h=>h rfl)]
 have:localS d tI stF0=some (0,stF):=by
  unfold localS
  rw [hn]
  rfl
 rw [this]
 exact ⟨_,rfl⟩
end
end Go.Proofs.YtgpigfcagppohaaGreatDoor
