/-
  What the functions that the law reaches compute,told by plain data;it holds of programs that pass the check of right form and are light.
-/
import Derived.Test.YtgpigfcagppohaaGreatDoorR36
import Derived.Test.YtgpigfcagppohaaGreatDoorR38
set_option linter.unusedVariables false
set_option linter.unusedSimpArgs false
namespace Go.Proofs.YtgpigfcagppohaaGreatDoor
def kA:List TokS:=[wrd bInt,nam bX,sgn 59,wrd bInt,nam bMain,sgn 40,sgn 41,sgn 123,wrd bInt,nam bY,sgn 61,nam bX,sgn 59]
def kB:List TokS:=[sgn 123,wrd bInt,nam bY,sgn 61,nam bY,sgn 43,num (b1 49) 1,sgn 59]
def kC:List TokS:=[wrd bInt,nam bY,sgn 61,num (b1 50) 2,sgn 59]
def kD:List TokS:=[nam bOut,sgn 40,nam bY,sgn 41,sgn 59]
def kE:List TokS:=[sgn 125]
def kT (z:Bool):List TokS:=if z then [wrd bReturn,nam bZ,sgn 59,sgn 125] else [wrd bReturn,nam bY,sgn 59,sgn 125]
theorem sc_A (r:List UInt8):Sc scA r kA:=Sc.mk 22 (by kernel_rfl) (fun n p=>by kernel_rfl) (fun p=>by kernel_rfl)
theorem sc_B (r:List UInt8):Sc scB r kB:=Sc.mk 15 (by kernel_rfl) (fun n p=>by kernel_rfl) (fun p=>by kernel_rfl)
theorem sc_C (r:List UInt8):Sc scC r kC:=Sc.mk 9 (by kernel_rfl) (fun n p=>by kernel_rfl) (fun p=>by kernel_rfl)
theorem sc_D (r:List UInt8):Sc scD r kD:=Sc.mk 6 (by kernel_rfl) (fun n p=>by kernel_rfl) (fun p=>by kernel_rfl)
theorem sc_E (r:List UInt8):Sc scE r kE:=Sc.mk 2 (by kernel_rfl) (fun n p=>by kernel_rfl) (fun p=>by kernel_rfl)
theorem sc_Y (r:List UInt8):Sc scY r (kT false):=Sc.mk 6 (by kernel_rfl) (fun n p=>by kernel_rfl) (fun p=>by kernel_rfl)
theorem sc_Z (r:List UInt8):Sc scZ r (kT true):=Sc.mk 6 (by kernel_rfl) (fun n p=>by kernel_rfl) (fun p=>by kernel_rfl)
def ifC (w i:Nat):List TokS:=if i=w then kC else []
def kR (w:Nat):Nat→List TokS
 | 0=>kA
 | i+1=>kR w i++(kB++ifC w i)
theorem sc_R (w:Nat):∀ (d:Nat) (r:List UInt8),Sc (scopeR w d) r (kR w d)
 | 0,r=>sc_A r
 | d+1,r=>by
  rw [scopeR,kR,← List.append_assoc]
  refine Sc.app (Sc.app (sc_R w d _) (sc_B _)) ?_
  unfold ifC
  split
  ·exact sc_C r
  ·exact Sc.nil
def kS (d w:Nat) (z:Bool):List TokS:=kR w d++(kD++((List.replicate d kE).flatten++kT z))
theorem scope_len (w:Nat):∀ d,(scopeR w d).length≤31+28 * d
 | 0=>by show scA.length≤31;decide
 | d+1=>by
  rw [scopeR,List.length_append,List.length_append]
  have:=scope_len w d
  have h1:scB.length=17:=rfl
  have h2:(if d=w then scC else []).length≤11:=by split<;>decide
  omega
theorem repL_len (s:List UInt8):∀ n,(repL s n).length=n * s.length
 | 0=>by simp [repL]
 | n+1=>by rw [repL,List.length_append,repL_len s n,Nat.succ_mul]
theorem scope_total {d w:Nat} {z:Bool} (hd:d < 20):(scopeL d w z).length≤999:=by
 unfold scopeL
 simp only [List.length_append,repL_len]
 have:=scope_len w d
 have h1:scD.length=8:=rfl
 have h2:d * scE.length=d * 2:=rfl
 have h3:(if z=true then scZ else scY).length=11:=by split<;>rfl
 omega
theorem scope_scan {d w:Nat} {z:Bool} (hd:d < 20):∃ us,scanL 1000 0 (scopeL d w z)=some us∧us.map nk=kS d w z++[⟨0,⟨#[]⟩,0,0,false,false⟩]:=by
 refine Sc.all ?_ (scope_total hd)
 unfold scopeL kS
 rw [← List.append_assoc,← List.append_assoc]
 refine Sc.app (Sc.app (Sc.app (sc_R w d _) (sc_D _)) (Sc.rep sc_E d _)) ?_
 cases z with
 | false=>exact sc_Y []
 | true=>exact sc_Z []
theorem kR_len (w:Nat):∀ d,13+8 * d≤(kR w d).length∧(kR w d).length≤13+13 * d
 | 0=>by show 13≤kA.length∧kA.length≤13;decide
 | d+1=>by
  rw [kR,List.length_append,List.length_append]
  have:=kR_len w d
  have h1:kB.length=8:=rfl
  have h2:(ifC w d).length≤5:=by unfold ifC;split<;>decide
  omega
theorem seg_R {T:Nat→TokS} {w:Nat}:∀ d,Seg T 0 (kR w d)→∀ i,i < d→Seg T (kR w i).length (kB++ifC w i)
 | 0,_,i,hi=>absurd hi (Nat.not_lt_zero i)
 | d+1,h,i,hi=>by
  rw [kR] at h
  rcases Nat.lt_or_ge i d with h1|h1
  ·exact seg_R d h.left i h1
  ·obtain rfl:i=d:=by omega
   have:=h.right
   rwa [Nat.zero_add] at this
theorem flat_E:∀ d,(List.replicate d kE).flatten=List.replicate d (sgn 125)
 | 0=>rfl
 | d+1=>by rw [List.replicate_succ,List.flatten_cons,flat_E d];rfl
section
variable {T:Nat→TokS} {w d:Nat}
theorem binX_of {t:TokS} {q:TokS} {e r:ExprS} (h:nk t=q):binX t e r=if eqB q.text (b2 124 124) then .mk 14 t.pos ⟨#[]⟩ zeroTok zeroType [e,r] else if eqB q.text (b2 38 38) then .mk 13 t.pos ⟨#[]⟩ zeroTok zeroType [e,r] else .mk 12 t.pos q.text zeroTok zeroType [e,r]:=by
 subst h;rfl
theorem decl_y1 {a n D:Nat} (h0:nk (T a)=wrd bInt) (h1:nk (T (a+1))=nam bY) (h2:nk (T (a+2))=sgn 61) (h3:nk (T (a+3))=nam bY) (h4:nk (T (a+4))=sgn 43) (h5:nk (T (a+5))=num (b1 49) 1) (h6:nk (T (a+6))=sgn 59) (ha:a < 2000) (hd:D < 50) :
 QS T (n+10) a D (.mk 2 (T a).pos (declI T a bInt bY) (some (.mk 12 (T (a+4)).pos (b1 43) zeroTok zeroType [.mk 2 (T (a+3)).pos bY zeroTok zeroType [],.mk 1 (T (a+5)).pos ⟨#[]⟩ (T (a+5)) zeroType []])) []) (a+7):=by
 have e1:PE T (n+3) .unary (a+3) (D+1+1) (.mk 2 (T (a+3)).pos bY zeroTok zeroType []) (a+4):=PE.nam h3 (by rw [stop_nk h4];decide) (by omega) (by omega)
 have e2:PE T (n+3) .unary (a+5) (D+1+1) (.mk 1 (T (a+5)).pos ⟨#[]⟩ (T (a+5)) zeroType []) (a+6):=PE.num h5 (by rw [stop_nk h6];decide) (by omega) (by omega)
 have e3:=PE.bin2 (n:=n+2) (l:=9) e1 (by rw [signK_nk h4];decide) (by decide) e2 (by rw [signK_nk h6];decide) (by omega)
 have e4:=(PE.full e3 (by rw [stopF_nk h6];decide) (by omega)).le (m:=n+9) (by omega)
 rw [binX_of h4] at e4
 exact QS.decl (n:=n+8) h0 (.inl rfl) h1 h2 e4 h6 (by omega) (by omega)
theorem decl_2 {a n D:Nat} (h0:nk (T a)=wrd bInt) (h1:nk (T (a+1))=nam bY) (h2:nk (T (a+2))=sgn 61) (h3:nk (T (a+3))=num (b1 50) 2) (h4:nk (T (a+4))=sgn 59) (ha:a < 2000) (hd:D < 50) :
 QS T (n+10) a D (.mk 2 (T a).pos (declI T a bInt bY) (some (.mk 1 (T (a+3)).pos ⟨#[]⟩ (T (a+3)) zeroType [])) []) (a+5):=by
 have e1:PE T (n+3) .unary (a+3) (D+1+1) (.mk 1 (T (a+3)).pos ⟨#[]⟩ (T (a+3)) zeroType []) (a+4):=PE.num h3 (by rw [stop_nk h4];decide) (by omega) (by omega)
 exact QS.decl (n:=n+8) h0 (.inl rfl) h1 h2 ((PE.full1 (n:=n+2) e1 (by rw [signK_nk h4];decide) (by rw [stopF_nk h4];decide) (by omega)).le (by omega)) h4 (by omega) (by omega)
theorem decl_x {a n D:Nat} (h0:nk (T a)=wrd bInt) (h1:nk (T (a+1))=nam bY) (h2:nk (T (a+2))=sgn 61) (h3:nk (T (a+3))=nam bX) (h4:nk (T (a+4))=sgn 59) (ha:a < 2000) (hd:D < 50) :
 QS T (n+10) a D (.mk 2 (T a).pos (declI T a bInt bY) (some (.mk 2 (T (a+3)).pos bX zeroTok zeroType [])) []) (a+5):=by
 have e1:PE T (n+3) .unary (a+3) (D+1+1) (.mk 2 (T (a+3)).pos bX zeroTok zeroType []) (a+4):=PE.nam h3 (by rw [stop_nk h4];decide) (by omega) (by omega)
 exact QS.decl (n:=n+8) h0 (.inl rfl) h1 h2 ((PE.full1 (n:=n+2) e1 (by rw [signK_nk h4];decide) (by rw [stopF_nk h4];decide) (by omega)).le (by omega)) h4 (by omega) (by omega)
theorem ret_at {a n D:Nat} {s:ByteArray} (h0:nk (T a)=wrd bReturn) (h1:nk (T (a+1))=nam s) (h2:nk (T (a+2))=sgn 59) (ha:a < 2000) (hd:D < 50):QS T (n+10) a D (.mk 11 (T a).pos zeroDecl (some (.mk 2 (T (a+1)).pos s zeroTok zeroType [])) []) (a+3):=by
 have e1:PE T (n+3) .unary (a+1) (D+1+1) (.mk 2 (T (a+1)).pos s zeroTok zeroType []) (a+2):=PE.nam h1 (by rw [stop_nk h2];decide) (by omega) (by omega)
 exact QS.ret (n:=n+9) h0 (by rw [wordy_nk h1];rfl) ((PE.full1 (n:=n+2) e1 (by rw [signK_nk h2];decide) (by rw [stopF_nk h2];decide) (by omega)).le (by omega)) h2 (by omega) (by omega)
theorem out_at {a n D:Nat} (h0:nk (T a)=nam bOut) (h1:nk (T (a+1))=sgn 40) (h2:nk (T (a+2))=nam bY) (h3:nk (T (a+3))=sgn 41) (h4:nk (T (a+4))=sgn 59) (ha:a < 2000) (hd:D < 50) :
 QS T (n+14) a D (.mk 1 (T a).pos zeroDecl (some (.mk 3 (T (a+1)).pos ⟨#[]⟩ zeroTok zeroType [.mk 2 (T a).pos bOut zeroTok zeroType [],.mk 2 (T (a+2)).pos bY zeroTok zeroType []])) []) (a+5):=by
 have e1:PE T (n+3) .unary (a+2) (D+1+1+1+1) (.mk 2 (T (a+2)).pos bY zeroTok zeroType []) (a+3):=PE.nam h2 (by rw [stop_nk h3];decide) (by omega) (by omega)
 have e2:=PE.full1 (n:=n+2) e1 (by rw [signK_nk h3];decide) (by rw [stopF_nk h3];decide) (by omega)
 have e3:=PE.call (n:=n+6) (d:=D+1+1) h0 h1 (by rw [wordy_nk h2];rfl) e2 h3 (by rw [stop_nk h4];decide) (by omega) (by omega)
 have e4:=PE.full1 (n:=n+7) e3 (by rw [signK_nk h4];decide) (by rw [stopF_nk h4];decide) (by omega)
 exact QS.expr (n:=n+13) h0 (e4.le (by omega)) h4 (by omega) (by omega)
theorem go_cons {N n:Nat} {s:StmtS} {l:List StmtS} {out:List BodyS} {st st':CS} {b:BodyS} (h0:st.fk=0) (h:stmtM N n s st=some (b,st')):stmtM.go N n (s::l) out st=stmtM.go N n l (out++[b]) st':=by
 rw [stmtM.go,if_neg (fun x=>x h0)]
 simp only [Option.bind_eq_bind,h,Option.bind_some]
theorem go_stop {N n:Nat} {l:List StmtS} {out:List BodyS} {st:CS} (h0:st.fk≠0):stmtM.go N n l out st=some (out,st):=by
 cases l with
 | nil=>rw [stmtM.go]
 | cons s l=>rw [stmtM.go,if_pos h0]
def GoX (N n:Nat) (l:List StmtS) (out:List BodyS) (st st':CS):Prop:=∃ r,stmtM.go N n l out st=some (r,st')
theorem GoX.cons {N n:Nat} {s:StmtS} {l:List StmtS} {out:List BodyS} {st st' st'':CS} {b:BodyS} (h0:st.fk=0) (h:stmtM N n s st=some (b,st')) (hr:GoX N n l (out++[b]) st' st''):GoX N n (s::l) out st st'':=by
 obtain ⟨r,hr⟩:=hr
 exact ⟨r,(go_cons h0 h).trans hr⟩
theorem GoX.stop {N n:Nat} {l:List StmtS} {out:List BodyS} {st:CS} (h0:st.fk≠0):GoX N n l out st st:=⟨_,go_stop h0⟩
theorem GoX.nil {N n:Nat} {out:List BodyS} {st:CS}:GoX N n [] out st st:=⟨out,by rw [stmtM.go]⟩
theorem block_of {N n p:Nat} {kids:List StmtS} {st st':CS} (hd:st.depth < 900) (hl:kids.length≤900) (h:GoX N n kids [] { st with depth:=st.depth+1 } st'):∃ b,stmtM N (n+1) (.mk 3 p zeroDecl none kids) st=some (b,leaveS st'):=by
 obtain ⟨l,h⟩:=h
 rw [stmtM,if_neg (by decide),if_neg (by decide),if_pos rfl,if_neg (by omega)]
 simp only [Option.bind_eq_bind,h,Option.bind_some]
 exact ⟨_,rfl⟩
theorem let_stm {N n p:Nat} {d:DeclS} {x:ExprS} {st:CS}:stmtM N (n+1) (.mk 2 p d (some x) []) st=letM N p d (some x) st:=by
 rw [stmtM,if_neg (by decide),if_pos rfl]
theorem typ_declI {a:Nat}:typS (declI T a bInt bY).ty=some tI:=rfl
theorem inner (hB:∀ i,i < d→Seg T (kR w i).length (kB++ifC w i)) (hD:Seg T (kR w d).length kD) (hE:∀ j,j < d→nk (T ((kR w d).length+5+j))=sgn 125) (hd:d < 20) :
 ∀ r i,r+i=d→∃ s,(∀ n,QS T (n+14+5 * r) (kR w i).length (i+1) s ((kR w d).length+5+r)) ∧
  (∀ N n,∃ b st',stmtM (N+3) (n+1+r) s (st3 (i+1) (i+1) (i+1))=some (b,st')∧(if i≤w∧w < d then st'.fk=13 else st'=st3 (d+1) (i+1) (i+1))):=by
 intro r
 induction r with
 | zero =>
  intro i hi
  obtain rfl:i=d:=by omega
  have hl:=kR_len w i
  refine ⟨_,fun n=>out_at (hD 0 _ rfl) (hD 1 _ rfl) (hD 2 _ rfl) (hD 3 _ rfl) (hD 4 _ rfl) (by omega) (by omega),fun N n=>?_⟩
  obtain ⟨b,hb⟩:=out_ok (N:=N) (n:=n) (p:=(T (kR w i).length).pos) (p1:=(T ((kR w i).length+1)).pos) (p2:=(T (kR w i).length).pos) (p3:=(T ((kR w i).length+2)).pos) (D:=i+1) (Nat.lt_succ_self i)
  refine ⟨b,_,hb,?_⟩
  rw [if_neg (by omega)]
 | succ r ih =>
  intro i hi
  have hid:i < d:=by omega
  have hl:=kR_len w i
  have hl':=kR_len w d
  obtain ⟨s,hs1,hs2⟩:=ih (i+1) (by omega)
  have hb:=hB i hid
  have hend:=hE r (by omega)
  have hdecl:∀ n,_:=fun n=>decl_y1 (n:=n) (D:=i+1+1) (hb.left 1 _ rfl) (hb.left 2 _ rfl) (hb.left 3 _ rfl) (hb.left 4 _ rfl) (hb.left 5 _ rfl) (hb.left 6 _ rfl) (hb.left 7 _ rfl) (show (kR w i).length+1 < 2000 by omega) (by omega)
  have hlet:∀ N,∃ b,letM (N+3) (T ((kR w i).length+1)).pos (declI T ((kR w i).length+1) bInt bY) (some (.mk 12 (T ((kR w i).length+1+4)).pos (b1 43) zeroTok zeroType [.mk 2 (T ((kR w i).length+1+3)).pos bY zeroTok zeroType [],.mk 1 (T ((kR w i).length+1+5)).pos ⟨#[]⟩ (T ((kR w i).length+1+5)) zeroType []])) (st3 (i+1) (i+1) (i+1+1))=some (b,st3 (i+1+1) (i+1+1) (i+1+1)):=fun N=>by
   have ht:=hb.left 6 _ rfl
   obtain ⟨v,hv1,hv2⟩:=ex_y1 (N:=N+1) (p:=(T ((kR w i).length+1+4)).pos) (p1:=(T ((kR w i).length+1+3)).pos) (p2:=(T ((kR w i).length+1+5)).pos) (tk:=zeroTok) (tk':=T ((kR w i).length+1+5)) (ty:=zeroType) (j:=i+1) (m:=i) (D:=i+1+1) (Nat.lt_succ_self i) (congrArg TokS.uns ht) (congrArg TokS.long ht) (by rw [show (T ((kR w i).length+1+5)).value=1 from congrArg TokS.value ht];decide)
   exact let_ok (by omega) rfl typ_declI hv1 hv2
  by_cases hiw:i=w
  ·subst hiw
   have hP:(kR i (i+1)).length=(kR i i).length+13:=by
    rw [kR,List.length_append]
    unfold ifC
    rw [if_pos rfl];rfl
   have hb2:Seg T ((kR i i).length+8) kC:=by
    have h2:=hb.right
    unfold ifC at h2
    rw [if_pos rfl] at h2
    exact h2
   have hdeclC:∀ n,_:=fun n=>decl_2 (n:=n) (D:=i+1+1) (hb2 0 _ rfl) (hb2 1 _ rfl) (hb2 2 _ rfl) (hb2 3 _ rfl) (hb2 4 _ rfl) (show (kR i i).length+8 < 2000 by omega) (by omega)
   refine ⟨.mk 3 (T (kR i i).length).pos zeroDecl none [(.mk 2 (T ((kR i i).length+1)).pos (declI T ((kR i i).length+1) bInt bY) (some (.mk 12 (T ((kR i i).length+1+4)).pos (b1 43) zeroTok zeroType [.mk 2 (T ((kR i i).length+1+3)).pos bY zeroTok zeroType [],.mk 1 (T ((kR i i).length+1+5)).pos ⟨#[]⟩ (T ((kR i i).length+1+5)) zeroType []])) []:StmtS),(.mk 2 (T ((kR i i).length+8)).pos (declI T ((kR i i).length+8) bInt bY) (some (.mk 1 (T ((kR i i).length+8+3)).pos ⟨#[]⟩ (T ((kR i i).length+8+3)) zeroType [])) []:StmtS),s],fun n=>?_,fun N n=>?_⟩
   ·refine QS.block (n:=n+14+5 * r+4) (hb.left 0 _ rfl) ?_ (by omega) (by omega)
    refine QB.cons (n:=n+14+5 * r+3) (by rw [wordy_nk (hb.left 1 _ rfl)];decide) (Nat.le_of_ble_eq_true rfl) (by rw [show n+14+5 * r+3=(n+4+5 * r+3)+10 by omega];exact hdecl _) ?_
    refine QB.cons (n:=n+14+5 * r+2) (by rw [wordy_nk (show nk (T ((kR i i).length+1+7))=wrd bInt from hb2 0 _ rfl)];decide) (Nat.le_of_ble_eq_true rfl) (by rw [show n+14+5 * r+2=(n+4+5 * r+2)+10 by omega];exact hdeclC _) ?_
    refine QB.cons (n:=n+14+5 * r+1) (x:=s) (b:=(kR i d).length+5+r) ?_ (Nat.le_of_ble_eq_true rfl) ?_ ?_
    ·by_cases hlast:i+1=d
     ·subst hlast
      rw [show (kR i i).length+8+5=(kR i (i+1)).length by omega,wordy_nk (show nk (T (kR i (i+1)).length)=nam bOut from hD 0 _ rfl)];decide
     ·rw [show (kR i i).length+8+5=(kR i (i+1)).length by omega,wordy_nk (show nk (T (kR i (i+1)).length)=sgn 123 from (hB (i+1) (by omega)).left 0 _ rfl)];decide
    ·rw [show (kR i i).length+8+5=(kR i (i+1)).length by omega,show n+14+5 * r+1=(n+1)+14+5 * r by omega]
     exact hs1 _
    ·exact QB.end (n:=n+14+5 * r) hend (by omega) (Nat.le_of_ble_eq_true rfl)
   ·obtain ⟨bd1,hb1⟩:=hlet N
    have ht:=hb2 3 _ rfl
    obtain ⟨b2,st',hb3,hfk⟩:=let_twice (N:=N+3) (m:=i+1) (d:=declI T ((kR i i).length+8) bInt bY) (p:=(T ((kR i i).length+8)).pos) (by omega) rfl typ_declI (ex_num (N:=N+2) (p:=(T ((kR i i).length+8+3)).pos) (tk:=T ((kR i i).length+8+3)) (ty:=zeroType) (kids:=[]) (congrArg TokS.uns ht) (congrArg TokS.long ht) (by rw [show (T ((kR i i).length+8+3)).value=2 from congrArg TokS.value ht];decide) (st:=st3 (i+1+1) (i+1+1) (i+1+1)) rfl)
    obtain ⟨b,hbb⟩:=block_of (N:=N+3) (n:=n+1+r) (kids:=[(.mk 2 (T ((kR i i).length+1)).pos (declI T ((kR i i).length+1) bInt bY) (some (.mk 12 (T ((kR i i).length+1+4)).pos (b1 43) zeroTok zeroType [.mk 2 (T ((kR i i).length+1+3)).pos bY zeroTok zeroType [],.mk 1 (T ((kR i i).length+1+5)).pos ⟨#[]⟩ (T ((kR i i).length+1+5)) zeroType []])) []:StmtS),(.mk 2 (T ((kR i i).length+8)).pos (declI T ((kR i i).length+8) bInt bY) (some (.mk 1 (T ((kR i i).length+8+3)).pos ⟨#[]⟩ (T ((kR i i).length+8+3)) zeroType [])) []:StmtS),s]) (p:=(T (kR i i).length).pos) (st:=st3 (i+1) (i+1) (i+1)) (st':=st') (by show i+1 < 900;omega) (Nat.le_of_ble_eq_true rfl) (by
     rw [show n+1+r=(n+r)+1 by omega]
     exact GoX.cons (st':=st3 (i+1+1) (i+1+1) (i+1+1)) rfl (let_stm.trans hb1) (GoX.cons (st':=st') rfl (let_stm.trans hb3) (GoX.stop (by rw [hfk];decide))))
    exact ⟨b,_,hbb,by rw [if_pos (by omega)];exact hfk⟩
  ·have hP:(kR w (i+1)).length=(kR w i).length+8:=by
    rw [kR,List.length_append]
    unfold ifC
    rw [if_neg hiw];rfl
   refine ⟨.mk 3 (T (kR w i).length).pos zeroDecl none [(.mk 2 (T ((kR w i).length+1)).pos (declI T ((kR w i).length+1) bInt bY) (some (.mk 12 (T ((kR w i).length+1+4)).pos (b1 43) zeroTok zeroType [.mk 2 (T ((kR w i).length+1+3)).pos bY zeroTok zeroType [],.mk 1 (T ((kR w i).length+1+5)).pos ⟨#[]⟩ (T ((kR w i).length+1+5)) zeroType []])) []:StmtS),s],fun n=>?_,fun N n=>?_⟩
   ·refine QS.block (n:=n+14+5 * r+4) (hb.left 0 _ rfl) ?_ (by omega) (by omega)
    refine QB.cons (n:=n+14+5 * r+3) (by rw [wordy_nk (hb.left 1 _ rfl)];decide) (Nat.le_of_ble_eq_true rfl) (by rw [show n+14+5 * r+3=(n+4+5 * r+3)+10 by omega];exact hdecl _) ?_
    refine QB.cons (n:=n+14+5 * r+2) (x:=s) (b:=(kR w d).length+5+r) ?_ (Nat.le_of_ble_eq_true rfl) ?_ ?_
    ·by_cases hlast:i+1=d
     ·subst hlast
      rw [show (kR w i).length+1+7=(kR w (i+1)).length by omega,wordy_nk (show nk (T (kR w (i+1)).length)=nam bOut from hD 0 _ rfl)];decide
     ·rw [show (kR w i).length+1+7=(kR w (i+1)).length by omega,wordy_nk (show nk (T (kR w (i+1)).length)=sgn 123 from (hB (i+1) (by omega)).left 0 _ rfl)];decide
    ·rw [show (kR w i).length+1+7=(kR w (i+1)).length by omega,show n+14+5 * r+2=(n+2)+14+5 * r by omega]
     exact hs1 _
    ·exact QB.end (n:=n+14+5 * r+1) hend (by omega) (Nat.le_of_ble_eq_true rfl)
   ·obtain ⟨bd1,hb1⟩:=hlet N
    obtain ⟨b2,st',hb3,hst⟩:=hs2 N n
    obtain ⟨b,hbb⟩:=block_of (N:=N+3) (n:=n+1+r) (kids:=[(.mk 2 (T ((kR w i).length+1)).pos (declI T ((kR w i).length+1) bInt bY) (some (.mk 12 (T ((kR w i).length+1+4)).pos (b1 43) zeroTok zeroType [.mk 2 (T ((kR w i).length+1+3)).pos bY zeroTok zeroType [],.mk 1 (T ((kR w i).length+1+5)).pos ⟨#[]⟩ (T ((kR w i).length+1+5)) zeroType []])) []:StmtS),s]) (p:=(T (kR w i).length).pos) (st:=st3 (i+1) (i+1) (i+1)) (st':=st') (by show i+1 < 900;omega) (Nat.le_of_ble_eq_true rfl)
     (GoX.cons (st':=st3 (i+1+1) (i+1+1) (i+1+1)) rfl (by rw [show n+1+r=(n+r)+1 by omega];exact let_stm.trans hb1) (GoX.cons (st':=st') rfl hb3 GoX.nil))
    refine ⟨b,_,hbb,?_⟩
    ·by_cases hw:i+1≤w∧w < d
     ·rw [if_pos hw] at hst
      rw [if_pos (by omega)]
      exact hst
     ·rw [if_neg hw] at hst
      subst hst
      rw [if_neg (by omega)]
      exact leave_nm
end
theorem glob_scan {T:Nat→TokS} (h:Seg T 0 kA):outerS T 1000 ⟨[],[]⟩ startP=some (⟨[declI T 0 bInt bX],[]⟩,⟨3,0,0,0,0⟩):=by
 rw [← withK_eq h]
 kernel_rfl
theorem scopes_unit {d w:Nat} {z:Bool} {T:Nat→TokS} (hd:d < 20) (h:Seg T 0 (kS d w z++[⟨0,⟨#[]⟩,0,0,false,false⟩])):∃ u b,outersS T 1000 1000 ⟨[],[]⟩ startP=some (u,b)∧b.fk=0∧∃ r,checkU u=some r∧(match r with
 | .error p=>p.1
 | .ok _=>0)=(if w < d then 13 else if z then 12 else 0):=by
 have hS:=h.left
 unfold kS at hS
 have hR:=hS.left
 have hA:Seg T 0 kA:=by
  have:∀ i,Seg T 0 (kR w i)→Seg T 0 kA:=by
   intro i
   induction i with
   | zero=>exact fun h=>h
   | succ i ih=>intro h;rw [kR] at h;exact ih h.left
  exact this d hR
 have hR2:=hS.right
 rw [Nat.zero_add] at hR2
 have hD:=hR2.left
 have hR3:=hR2.right
 have hEs:=hR3.left
 rw [flat_E] at hEs
 have hE:∀ j,j < d→nk (T ((kR w d).length+5+j))=sgn 125:=fun j hj=>hEs j _ (by rw [List.getElem?_replicate,if_pos hj])
 have hT:=hR3.right
 rw [flat_E,List.length_replicate,show kD.length=5 from rfl] at hT
 have hZ:=h.right
 have hl:=kR_len w d
 have hlen:(kS d w z).length=(kR w d).length+5+d+4:=by
  unfold kS
  rw [flat_E]
  simp only [List.length_append,List.length_replicate]
  have:(kT z).length=4:=by cases z<;>rfl
  rw [this,show kD.length=5 from rfl];omega
 rw [hlen,Nat.zero_add] at hZ
 obtain ⟨s,hs1,hs2⟩:=inner (seg_R d hR) hD hE hd d 0 rfl
 have hret0:nk (T ((kR w d).length+5+d))=wrd bReturn:=by cases z<;>exact hT 0 _ rfl
 have hret1:nk (T ((kR w d).length+5+d+1))=nam (if z then bZ else bY):=by cases z<;>exact hT 1 _ rfl
 have hret2:nk (T ((kR w d).length+5+d+2))=sgn 59:=by cases z<;>exact hT 2 _ rfl
 have hret3:nk (T ((kR w d).length+5+d+3))=sgn 125:=by cases z<;>exact hT 3 _ rfl
 have hbody:QS T (998+1+1) 7 0 (.mk 3 (T 7).pos zeroDecl none [.mk 2 (T 8).pos (declI T 8 bInt bY) (some (.mk 2 (T 11).pos bX zeroTok zeroType [])) [],s,.mk 11 (T ((kR w d).length+5+d)).pos zeroDecl (some (.mk 2 (T ((kR w d).length+5+d+1)).pos (if z then bZ else bY) zeroTok zeroType [])) []]) ((kR w d).length+5+d+4):=by
  refine QS.block (n:=999) (hA 7 _ rfl) ?_ (by omega) (by omega)
  refine QB.cons (n:=998) (by rw [wordy_nk (hA 8 _ rfl)];decide) (Nat.le_of_ble_eq_true rfl) (decl_x (n:=988) (hA 8 _ rfl) (hA 9 _ rfl) (hA 10 _ rfl) (hA 11 _ rfl) (hA 12 _ rfl) (by omega) (by omega)) ?_
  refine QB.cons (n:=997) (x:=s) (b:=(kR w d).length+5+d) ?_ (Nat.le_of_ble_eq_true rfl) ?_ ?_
  ·cases d with
   | zero=>rw [wordy_nk (show nk (T (8+5))=nam bOut from hD 0 _ rfl)];decide
   | succ d=>rw [wordy_nk (show nk (T (8+5))=sgn 123 from (seg_R (d+1) hR 0 (by omega)).left 0 _ rfl)];decide
  ·have:=hs1 (997 - 14 - 5 * d)
   rw [show 997 - 14 - 5 * d+14+5 * d=997 by omega] at this
   exact this
  ·refine QB.cons (n:=996) (by rw [wordy_nk hret0];decide) (Nat.le_of_ble_eq_true rfl) (ret_at (n:=986) hret0 hret1 hret2 (by omega) (by omega)) ?_
   exact QB.end (n:=995) hret3 (by omega) (Nat.le_of_ble_eq_true rfl)
 obtain ⟨k',ho⟩:=main_outer (n:=999) (a:=3) (k:=0) (gs:=[declI T 0 bInt bX]) (hA 3 _ rfl) (hA 4 _ rfl) (hA 5 _ rfl) (hA 6 _ rfl) (hA 7 _ rfl) hbody (by omega) (by omega)
 have houter:=(outers_step (N:=1000) (n:=999) rfl (by show (T 0).kind≠0;rw [kind_nk (hA 0 _ rfl)];decide) (glob_scan hA)).trans
  ((outers_step (n:=998) rfl (by show (T 3).kind≠0;rw [kind_nk (hA 3 _ rfl)];decide) ho).trans (outers_end (n:=997) (show (T ((kR w d).length+5+d+4)).kind=0 by rw [kind_nk (hZ 0 _ rfl)])))
 refine ⟨_,_,houter,rfl,?_⟩
 ·unfold checkU
  rw [show globalsM [declI T 0 bInt bX] startC=some ⟨0,0,[⟨bX,tI,0⟩],4,⟨0,false,false⟩,[],[],0⟩ from rfl]
  simp only [Option.bind_eq_bind,Option.bind_some]
  rw [if_neg (by
   rintro (x|x|x)
   ·exact x rfl
   ·exact absurd x (by decide)
   ·exact absurd x (show ¬ (eqB bX bMain || false)=true by decide))]
  rw [show typS ⟨⟨false,bInt,false,⟨#[]⟩,(T 3).pos⟩,0,[]⟩=some tI from rfl]
  simp only [Option.bind_some]
  obtain ⟨b1,hb1⟩:∃ b,letM 1000 (T 8).pos (declI T 8 bInt bY) (some (.mk 2 (T 11).pos bX zeroTok zeroType [])) (st3 0 0 1)=some (b,st3 1 1 1):=let_ok (m:=0) (by omega) rfl typ_declI ex_x rfl
  obtain ⟨b2,st',hb2,hst⟩:=hs2 997 (998 - d)
  have hgo:∃ l st'',stmtM 1000 1000 (.mk 3 (T 7).pos zeroDecl none [.mk 2 (T 8).pos (declI T 8 bInt bY) (some (.mk 2 (T 11).pos bX zeroTok zeroType [])) [],s,.mk 11 (T ((kR w d).length+5+d)).pos zeroDecl (some (.mk 2 (T ((kR w d).length+5+d+1)).pos (if z then bZ else bY) zeroTok zeroType [])) []]) (st3 0 0 0)=some (l,leaveS st'')∧st''.fk=(if w < d then 13 else if z then 12 else 0):=by
   rw [show 998 - d+1+d=999 by omega] at hb2
   by_cases hw:w < d
   ·rw [if_pos ⟨Nat.zero_le _,hw⟩] at hst
    obtain ⟨b,hbb⟩:=block_of (N:=1000) (n:=999) (kids:=[.mk 2 (T 8).pos (declI T 8 bInt bY) (some (.mk 2 (T 11).pos bX zeroTok zeroType [])) [],s,.mk 11 (T ((kR w d).length+5+d)).pos zeroDecl (some (.mk 2 (T ((kR w d).length+5+d+1)).pos (if z then bZ else bY) zeroTok zeroType [])) []]) (p:=(T 7).pos) (st:=st3 0 0 0) (st':=st') (show 0 < 900 by omega) (Nat.le_of_ble_eq_true rfl) (GoX.cons (st':=st3 1 1 1) rfl (let_stm.trans hb1) (GoX.cons (l:=[.mk 11 (T ((kR w d).length+5+d)).pos zeroDecl (some (.mk 2 (T ((kR w d).length+5+d+1)).pos (if z then bZ else bY) zeroTok zeroType [])) []]) (st':=st') rfl hb2 (GoX.stop (by rw [hst];decide))))
    exact ⟨b,st',hbb,by rw [if_pos hw];exact hst⟩
   ·rw [if_neg (by omega)] at hst
    subst hst
    cases z with
    | false =>
     obtain ⟨b3,hb3⟩:=ret_y (N:=999) (n:=998) (p:=(T ((kR w d).length+5+d)).pos) (p1:=(T ((kR w d).length+5+d+1)).pos) (D:=1) (Nat.succ_pos d)
     obtain ⟨b,hbb⟩:=block_of (N:=1000) (n:=999) (kids:=[.mk 2 (T 8).pos (declI T 8 bInt bY) (some (.mk 2 (T 11).pos bX zeroTok zeroType [])) [],s,.mk 11 (T ((kR w d).length+5+d)).pos zeroDecl (some (.mk 2 (T ((kR w d).length+5+d+1)).pos bY zeroTok zeroType [])) []]) (p:=(T 7).pos) (st:=st3 0 0 0) (st':=st3 (d+1) 1 1) (show 0 < 900 by omega) (Nat.le_of_ble_eq_true rfl) (GoX.cons (st':=st3 1 1 1) rfl (let_stm.trans hb1) (GoX.cons (st':=st3 (d+1) 1 1) rfl hb2 (GoX.cons (st':=st3 (d+1) 1 1) rfl hb3 GoX.nil)))
     exact ⟨b,_,hbb,by rw [if_neg hw];rfl⟩
    | true =>
     obtain ⟨b3,st3',hb3,hf3⟩:=ret_z (N:=999) (n:=998) (p:=(T ((kR w d).length+5+d)).pos) (p1:=(T ((kR w d).length+5+d+1)).pos) (j:=d+1) (m:=1) (D:=1)
     obtain ⟨b,hbb⟩:=block_of (N:=1000) (n:=999) (kids:=[.mk 2 (T 8).pos (declI T 8 bInt bY) (some (.mk 2 (T 11).pos bX zeroTok zeroType [])) [],s,.mk 11 (T ((kR w d).length+5+d)).pos zeroDecl (some (.mk 2 (T ((kR w d).length+5+d+1)).pos bZ zeroTok zeroType [])) []]) (p:=(T 7).pos) (st:=st3 0 0 0) (st':=st3') (show 0 < 900 by omega) (Nat.le_of_ble_eq_true rfl) (GoX.cons (st':=st3 1 1 1) rfl (let_stm.trans hb1) (GoX.cons (st':=st3 (d+1) 1 1) rfl hb2 (GoX.cons (st':=st3') rfl hb3 GoX.nil)))
     exact ⟨b,_,hbb,by rw [if_neg hw];exact hf3⟩
  obtain ⟨l,st'',hg1,hg2⟩:=hgo
  rw [show tI=.int (i4 false) from rfl]
  dsimp only
  rw [if_neg (show ¬ (i4 false).sec=true by decide),if_neg (fun x=>x rfl),show (⟨0,0,[⟨bX,.int (i4 false),0⟩],4,i4 false,[],[],0⟩:CS)=st3 0 0 0 from rfl,hg1]
  simp only [Option.bind_some]
  rw [leave_fk,hg2]
  by_cases h0:(if w < d then 13 else if z then 12 else 0)=0
  ·rw [h0]
   exact ⟨_,if_neg (fun x=>x rfl),rfl⟩
  ·exact ⟨_,if_pos h0,rfl⟩
theorem scopes_law {d w:Nat} {z:Bool} (hd:d < 20):ckindT (scopeL d w z)=some (if w < d then 13 else if z then 12 else 0):=by
 obtain ⟨us,hs,hk⟩:=scope_scan (w:=w) (z:=z) hd
 obtain ⟨u,b,ho,hf,r,hc,hr⟩:=scopes_unit (w:=w) (z:=z) (T:=tokN us) hd (Seg.of hk)
 have hl:us.length≤1024:=by
  have:=congrArg List.length hk
  simp only [List.length_map,List.length_append,List.length_cons,List.length_nil] at this
  have h1:=kR_len w d
  have hlen:(kS d w z).length=(kR w d).length+5+d+4:=by
   unfold kS
   rw [flat_E]
   simp only [List.length_append,List.length_replicate]
   have:(kT z).length=4:=by cases z<;>rfl
   rw [this,show kD.length=5 from rfl];omega
  omega
 unfold ckindT checkT parseT
 rw [hs,Option.bind_some,parseL_eq hl]
 unfold parseU
 rw [ho]
 simp only [Option.map_some,Option.bind_eq_bind,Option.bind_some]
 rw [if_neg (fun x=>x hf)]
 simp only [hc,Option.map_some]
 exact congrArg some hr
end Go.Proofs.YtgpigfcagppohaaGreatDoor
