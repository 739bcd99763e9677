/-
  What the functions that the law reaches compute,told by plain data;it holds of programs that pass the check of right form and are light.
-/
import Derived.Test.YtgpigfcagppohaaGreatDoorR39
import Derived.Test.YtgpigfcagppohaaGreatDoorR40
set_option linter.unusedVariables false
set_option linter.unusedSimpArgs false
namespace Go.Proofs.YtgpigfcagppohaaGreatDoor
def flPre (o:Nat):List UInt8:=[[40],[45,40],[33],[40,120,32,63,32],[40,99,104,97,114,41,32],[116,91],[40],[40],[40],[40,120,32,124,32],[42,40,116,32,43,32,40]].getD o []
def flPost (o:Nat):List UInt8:=[[32,43,32,49,41],[41],[],[32,58,32,50,41],[],[32,38,32,51,93],[32,38,38,32,120,41],[32,61,61,32,51,41],[32,60,60,32,120,41],[41],[32,38,32,51,41,41]].getD o []
def flE:List Nat→List UInt8
 | []=>[107]
 | o::l=>flPre o++(flE l++flPost o)
def kPre (o:Nat):List TokS:=[[sgn 40],[sgn 45,sgn 40],[sgn 33],[sgn 40,nam bX,sgn 63],[sgn 40,wrd bChar,sgn 41],[nam bT,sgn 91],[sgn 40],[sgn 40],[sgn 40],[sgn 40,nam bX,sgn 124],[sgn 42,sgn 40,nam bT,sgn 43,sgn 40]].getD o []
def kPost (o:Nat):List TokS:=[[sgn 43,num (b1 49) 1,sgn 41],[sgn 41],[],[sgn 58,num (b1 50) 2,sgn 41],[],[sgn 38,num (b1 51) 3,sgn 93],[sgn2 38 38,nam bX,sgn 41],[sgn2 61 61,num (b1 51) 3,sgn 41],[sgn2 60 60,nam bX,sgn 41],[sgn 41],[sgn 38,num (b1 51) 3,sgn 41,sgn 41]].getD o []
def kFl:List Nat→List TokS
 | []=>[nam bK]
 | o::l=>kPre o++(kFl l++kPost o)
def tailB (r:List UInt8):Prop:=∃ c r',r=c::r'∧(c=32∨c=41∨c=59)
def headB (r:List UInt8):Prop:=∃ c r',r=c::r'∧(c=107∨c=40∨c=45∨c=33∨c=116∨c=42)
theorem o_cases {o:Nat} (h:o < 11):o=0∨o=1∨o=2∨o=3∨o=4∨o=5∨o=6∨o=7∨o=8∨o=9∨o=10:=by omega
theorem head_fl:∀ (l:List Nat) (r:List UInt8),(∀ o∈l,o < 11)→headB (flE l++r)
 | [],r,_=>⟨107,r,rfl,.inl rfl⟩
 | o::l,r,h=>by
  rw [flE]
  rcases o_cases (h o (by simp)) with rfl|rfl|rfl|rfl|rfl|rfl|rfl|rfl|rfl|rfl|rfl
  ·exact ⟨40,_,rfl,by simp⟩
  ·exact ⟨45,_,rfl,by simp⟩
  ·exact ⟨33,_,rfl,by simp⟩
  ·exact ⟨40,_,rfl,by simp⟩
  ·exact ⟨40,_,rfl,by simp⟩
  ·exact ⟨116,_,rfl,by simp⟩
  ·exact ⟨40,_,rfl,by simp⟩
  ·exact ⟨40,_,rfl,by simp⟩
  ·exact ⟨40,_,rfl,by simp⟩
  ·exact ⟨40,_,rfl,by simp⟩
  ·exact ⟨42,_,rfl,by simp⟩
theorem sc_k {r:List UInt8} (h:tailB r):Sc [107] r [nam bK]:=by
 obtain ⟨c,r',rfl,hc⟩:=h
 rcases hc with rfl|rfl|rfl
 ·exact Sc.mk 1 (by kernel_rfl) (fun n p=>by kernel_rfl) (fun p=>by kernel_rfl)
 ·exact Sc.mk 1 (by kernel_rfl) (fun n p=>by kernel_rfl) (fun p=>by kernel_rfl)
 ·exact Sc.mk 1 (by kernel_rfl) (fun n p=>by kernel_rfl) (fun p=>by kernel_rfl)
theorem sc_bang {r:List UInt8} (h:headB r):Sc [33] r [sgn 33]:=by
 obtain ⟨c,r',rfl,hc⟩:=h
 rcases hc with rfl|rfl|rfl|rfl|rfl|rfl
 ·exact Sc.mk 1 (by kernel_rfl) (fun n p=>by kernel_rfl) (fun p=>by kernel_rfl)
 ·exact Sc.mk 1 (by kernel_rfl) (fun n p=>by kernel_rfl) (fun p=>by kernel_rfl)
 ·exact Sc.mk 1 (by kernel_rfl) (fun n p=>by kernel_rfl) (fun p=>by kernel_rfl)
 ·exact Sc.mk 1 (by kernel_rfl) (fun n p=>by kernel_rfl) (fun p=>by kernel_rfl)
 ·exact Sc.mk 1 (by kernel_rfl) (fun n p=>by kernel_rfl) (fun p=>by kernel_rfl)
 ·exact Sc.mk 1 (by kernel_rfl) (fun n p=>by kernel_rfl) (fun p=>by kernel_rfl)
theorem sc_pre {o:Nat} {r:List UInt8} (ho:o < 11) (h:headB r):Sc (flPre o) r (kPre o):=by
 rcases o_cases ho with rfl|rfl|rfl|rfl|rfl|rfl|rfl|rfl|rfl|rfl|rfl
 ·exact Sc.mk 1 (by kernel_rfl) (fun n p=>by kernel_rfl) (fun p=>by kernel_rfl)
 ·exact Sc.mk 2 (by kernel_rfl) (fun n p=>by kernel_rfl) (fun p=>by kernel_rfl)
 ·exact sc_bang h
 ·exact Sc.mk 5 (by kernel_rfl) (fun n p=>by kernel_rfl) (fun p=>by kernel_rfl)
 ·exact Sc.mk 4 (by kernel_rfl) (fun n p=>by kernel_rfl) (fun p=>by kernel_rfl)
 ·exact Sc.mk 2 (by kernel_rfl) (fun n p=>by kernel_rfl) (fun p=>by kernel_rfl)
 ·exact Sc.mk 1 (by kernel_rfl) (fun n p=>by kernel_rfl) (fun p=>by kernel_rfl)
 ·exact Sc.mk 1 (by kernel_rfl) (fun n p=>by kernel_rfl) (fun p=>by kernel_rfl)
 ·exact Sc.mk 1 (by kernel_rfl) (fun n p=>by kernel_rfl) (fun p=>by kernel_rfl)
 ·exact Sc.mk 5 (by kernel_rfl) (fun n p=>by kernel_rfl) (fun p=>by kernel_rfl)
 ·exact Sc.mk 7 (by kernel_rfl) (fun n p=>by kernel_rfl) (fun p=>by kernel_rfl)
theorem sc_post {o:Nat} {r:List UInt8} (ho:o < 11):Sc (flPost o) r (kPost o)∧(tailB r→tailB (flPost o++r)):=by
 rcases o_cases ho with rfl|rfl|rfl|rfl|rfl|rfl|rfl|rfl|rfl|rfl|rfl
 ·exact ⟨Sc.mk 5 (by kernel_rfl) (fun n p=>by kernel_rfl) (fun p=>by kernel_rfl),fun _=>⟨32,_,rfl,by simp⟩⟩
 ·exact ⟨Sc.mk 1 (by kernel_rfl) (fun n p=>by kernel_rfl) (fun p=>by kernel_rfl),fun _=>⟨41,_,rfl,by simp⟩⟩
 ·exact ⟨Sc.nil,fun h=>h⟩
 ·exact ⟨Sc.mk 5 (by kernel_rfl) (fun n p=>by kernel_rfl) (fun p=>by kernel_rfl),fun _=>⟨32,_,rfl,by simp⟩⟩
 ·exact ⟨Sc.nil,fun h=>h⟩
 ·exact ⟨Sc.mk 5 (by kernel_rfl) (fun n p=>by kernel_rfl) (fun p=>by kernel_rfl),fun _=>⟨32,_,rfl,by simp⟩⟩
 ·exact ⟨Sc.mk 5 (by kernel_rfl) (fun n p=>by kernel_rfl) (fun p=>by kernel_rfl),fun _=>⟨32,_,rfl,by simp⟩⟩
 ·exact ⟨Sc.mk 5 (by kernel_rfl) (fun n p=>by kernel_rfl) (fun p=>by kernel_rfl),fun _=>⟨32,_,rfl,by simp⟩⟩
 ·exact ⟨Sc.mk 5 (by kernel_rfl) (fun n p=>by kernel_rfl) (fun p=>by kernel_rfl),fun _=>⟨32,_,rfl,by simp⟩⟩
 ·exact ⟨Sc.mk 1 (by kernel_rfl) (fun n p=>by kernel_rfl) (fun p=>by kernel_rfl),fun _=>⟨41,_,rfl,by simp⟩⟩
 ·exact ⟨Sc.mk 6 (by kernel_rfl) (fun n p=>by kernel_rfl) (fun p=>by kernel_rfl),fun _=>⟨32,_,rfl,by simp⟩⟩
theorem sc_fl:∀ (l:List Nat) (r:List UInt8),(∀ o∈l,o < 11)→tailB r→Sc (flE l) r (kFl l)
 | [],r,_,h=>sc_k h
 | o::l,r,hl,h=>by
  have ho:=hl o (by simp)
  have hl':∀ x∈l,x < 11:=fun x hx=>hl x (by simp [hx])
  rw [flE,kFl]
  refine Sc.app (sc_pre ho ?_) (Sc.app (sc_fl l _ hl' ((sc_post ho).2 h)) (sc_post ho).1)
  rw [List.append_assoc]
  exact head_fl l _ hl'
def headT (q:TokS):Bool:=typedT q == false && wordy q (b1 41) == false && wordy q (b1 59) == false
theorem head_k:∀ (l:List Nat),(∀ o∈l,o < 11)→∃ q ks,kFl l=q::ks∧headT q=true
 | [],_=>⟨nam bK,[],rfl,by decide⟩
 | o::l,h=>by
  rw [kFl]
  rcases o_cases (h o (by simp)) with rfl|rfl|rfl|rfl|rfl|rfl|rfl|rfl|rfl|rfl|rfl
  ·exact ⟨sgn 40,_,rfl,by decide⟩
  ·exact ⟨sgn 45,_,rfl,by decide⟩
  ·exact ⟨sgn 33,_,rfl,by decide⟩
  ·exact ⟨sgn 40,_,rfl,by decide⟩
  ·exact ⟨sgn 40,_,rfl,by decide⟩
  ·exact ⟨nam bT,_,rfl,by decide⟩
  ·exact ⟨sgn 40,_,rfl,by decide⟩
  ·exact ⟨sgn 40,_,rfl,by decide⟩
  ·exact ⟨sgn 40,_,rfl,by decide⟩
  ·exact ⟨sgn 40,_,rfl,by decide⟩
  ·exact ⟨sgn 42,_,rfl,by decide⟩
section
variable {T:Nat→TokS} {a b c d n m:Nat} {e:ExprS}
theorem head_of {l:List Nat} (hl:∀ o∈l,o < 11) (h:Seg T a (kFl l)):typedT (T a)=false∧wordy (T a) (b1 41)=false∧wordy (T a) (b1 59)=false:=by
 obtain ⟨q,ks,h1,h2⟩:=head_k l hl
 rw [h1] at h
 have hq:=h.head
 unfold headT at h2
 simp only [Bool.and_eq_true,beq_iff_eq] at h2
 rw [typed_nk hq,wordy_nk hq,wordy_nk hq]
 exact ⟨h2.1.1,h2.1.2,h2.2⟩
theorem full_num {w:ByteArray} {v:Nat} {q1 q:TokS} (he:PE T (n+3) .unary a (d+1) e b) (h1:nk (T b)=q1) (h0:0 < signK q1) (h2:nk (T (b+1))=num w v) (h3:nk (T (b+2))=q) (hq:(stopP q && stopF q && (signK q == 0))=true) (hb:b < 2500) (hd:d < 50) :
 PE T (n+8) .full a d (binX (T b) e (.mk 1 (T (b+1)).pos ⟨#[]⟩ (T (b+1)) zeroType [])) (b+2):=by
 simp only [Bool.and_eq_true,beq_iff_eq] at hq
 exact PE.full (PE.bin2 (n:=n+2) he (by rw [signK_nk h1]) h0 (PE.num (n:=n+1) h2 (by rw [stop_nk h3];exact hq.1.1) (by omega) (by omega)) (by rw [signK_nk h3];exact hq.2) (by omega)) (by rw [stopF_nk h3];exact hq.1.2) (by omega)
theorem full_nam {w:ByteArray} {q1 q:TokS} (he:PE T (n+3) .unary a (d+1) e b) (h1:nk (T b)=q1) (h0:0 < signK q1) (h2:nk (T (b+1))=nam w) (h3:nk (T (b+2))=q) (hq:(stopP q && stopF q && (signK q == 0))=true) (hb:b < 2500) (hd:d < 50) :
 PE T (n+8) .full a d (binX (T b) e (.mk 2 (T (b+1)).pos w zeroTok zeroType [])) (b+2):=by
 simp only [Bool.and_eq_true,beq_iff_eq] at hq
 exact PE.full (PE.bin2 (n:=n+2) he (by rw [signK_nk h1]) h0 (PE.nam (n:=n+1) h2 (by rw [stop_nk h3];exact hq.1.1) (by omega) (by omega)) (by rw [signK_nk h3];exact hq.2) (by omega)) (by rw [stopF_nk h3];exact hq.1.2) (by omega)
theorem SecE.le {m m':Nat} (h:SecE m e) (hm:m≤m'):SecE m' e:=fun N=>by
 obtain ⟨k,rfl⟩:∃ k,m'=m+k:=⟨m' - m,by omega⟩
 rw [show N+(m+k)=N+k+m by omega]
 exact h (N+k)
theorem flow_p {q1:TokS} {w:ByteArray} {v:Nat} (he:PE T (n+3) .unary (a+1) (d+2) e b) (hp:nk (T a)=sgn 40) (ht:typedT (T (a+1))=false) (h1:nk (T b)=q1) (h0:0 < signK q1) (h2:nk (T (b+1))=num w v) (h3:nk (T (b+2))=sgn 41) (hs:stopP (T (b+3))=true) (hb:b < 2400) (hd:d < 48) :
 PE T (n+23) .unary a d (binX (T b) e (.mk 1 (T (b+1)).pos ⟨#[]⟩ (T (b+1)) zeroType [])) (b+3) :=
 (PE.paren (n:=n+8) hp ht (full_num he h1 h0 h2 h3 (by decide) (by omega) (by omega)) h3 hs (by omega) (by omega)).le (by omega)
theorem flow_x {q1:TokS} {w:ByteArray} (he:PE T (n+3) .unary (a+1) (d+2) e b) (hp:nk (T a)=sgn 40) (ht:typedT (T (a+1))=false) (h1:nk (T b)=q1) (h0:0 < signK q1) (h2:nk (T (b+1))=nam w) (h3:nk (T (b+2))=sgn 41) (hs:stopP (T (b+3))=true) (hb:b < 2400) (hd:d < 48) :
 PE T (n+23) .unary a d (binX (T b) e (.mk 2 (T (b+1)).pos w zeroTok zeroType [])) (b+3) :=
 (PE.paren (n:=n+8) hp ht (full_nam he h1 h0 h2 h3 (by decide) (by omega) (by omega)) h3 hs (by omega) (by omega)).le (by omega)
theorem num_facts {t:TokS} {w:ByteArray} {v:Nat} (h:nk t=num w v) (hv:v < 100):t.uns=false∧t.long=false∧t.value < 2147483648:=by
 refine ⟨congrArg TokS.uns h,congrArg TokS.long h,?_⟩
 have:t.value=v:=congrArg TokS.value h
 omega
theorem flow_e:∀ (l:List Nat) (a d:Nat),(∀ o∈l,o < 11)→Seg T a (kFl l)→stopP (T (a+(kFl l).length))=true→a+(kFl l).length < 2300→d+5 * l.length < 48→l.length≤8 →
 ∃ e,(∀ n,PE T (n+20 * l.length+3) .unary a d e (a+(kFl l).length))∧∃ m,m≤3 * l.length∧SecE (m+1) e
 | [],a,d,_,h,hs,ha,hd,_=>by
  refine ⟨_,fun n=>(PE.nam (n:=n+1) h.head hs (by omega) (by omega)),0,by omega,SecE.k⟩
 | o::l,a,d,hl,h,hs,ha,hd,h8=>by
  have ho:=hl o (by simp)
  have hl':∀ x∈l,x < 11:=fun x hx=>hl x (by simp [hx])
  rw [kFl] at h hs ha ⊢
  simp only [List.length_append,List.length_cons] at hs ha hd h8 ⊢
  have hp:=h.left
  have hm:=h.right.left
  have hq:=h.right.right
  have hh:=head_of hl' hm
  have ih:=flow_e l
  obtain ⟨b,hb⟩:∃ b,b=a+(kPre o).length+(kFl l).length:=⟨_,rfl⟩
  obtain ⟨z,hz⟩:∃ z,z=b+(kPost o).length:=⟨_,rfl⟩
  have hend:a+((kPre o).length+((kFl l).length+(kPost o).length))=z:=by omega
  have hbz:a+(kPre o).length+(kFl l).length=b:=hb.symm
  rw [hend] at hs ha ⊢
  rw [hbz] at hq
  suffices hmain:∀ δ,δ≤5→stopP (T b)=true→((∀ e m,SecE (m+1) e→∃ e',SecE (m+4) e'∧∀ n,PE T (n+3) .unary (a+(kPre o).length) (d+δ) e b→PE T (n+23) .unary a d e' z))→∃ e,(∀ n,PE T (n+20 * (l.length+1)+3) .unary a d e z)∧∃ m,m≤3 * (l.length+1)∧SecE (m+1) e by
   have hb3:b < 2300:=by omega
   have hab:a≤b:=by omega
   clear hb hbz hend
   rcases o_cases ho with rfl|rfl|rfl|rfl|rfl|rfl|rfl|rfl|rfl|rfl|rfl
   ·have hq0:nk (T b)=sgn 43:=hq 0 _ rfl
    have hq1:nk (T (b+1))=num (b1 49) 1:=hq 1 _ rfl
    have hq2:nk (T (b+2))=sgn 41:=hq 2 _ rfl
    obtain rfl:z=b+3:=hz
    have hf:=num_facts hq1 (by decide)
    refine hmain 2 (by omega) (by rw [stop_nk hq0];decide) fun e m he=>⟨_,?_,fun n g=>flow_p g (hp 0 _ rfl) hh.1 hq0 (by decide) hq1 hq2 hs (by omega) (by omega)⟩
    rw [binX_of hq0]
    exact (SecE.num he hf.1 hf.2.1 hf.2.2 (by decide)).le (by omega)
   ·have hq0:nk (T b)=sgn 41:=hq 0 _ rfl
    obtain rfl:z=b+1:=hz
    refine hmain 3 (by omega) (by rw [stop_nk hq0];decide) fun e m he=>⟨_,(SecE.neg (p:=(T a).pos) he).le (by omega),fun n g=>?_⟩
    have g1:=PE.full1 (n:=n+2) (a:=a+2) (d:=d+2) g (by rw [signK_nk hq0];decide) (by rw [stopF_nk hq0];decide) (by omega)
    have g2:=PE.paren (n:=n+6) (a:=a+1) (d:=d+1) (hp 1 _ rfl) hh.1 g1 hq0 hs (by omega) (by omega)
    exact (PE.sign (n:=n+9) (hp 0 _ rfl) (by decide) g2 (by omega) (by omega)).le (by omega)
   ·obtain rfl:z=b:=hz
    refine hmain 1 (by omega) hs fun e m he=>⟨_,(SecE.not (p:=(T a).pos) he).le (by omega),fun n g=>?_⟩
    exact (PE.sign (n:=n+3) (hp 0 _ rfl) (by decide) g (by omega) (by omega)).le (by omega)
   ·have hq0:nk (T b)=sgn 58:=hq 0 _ rfl
    have hq1:nk (T (b+1))=num (b1 50) 2:=hq 1 _ rfl
    have hq2:nk (T (b+2))=sgn 41:=hq 2 _ rfl
    obtain rfl:z=b+3:=hz
    have hf:=num_facts hq1 (by decide)
    have hp1:nk (T (a+1))=nam bX:=hp 1 _ rfl
    have hp2:nk (T (a+2))=sgn 63:=hp 2 _ rfl
    refine hmain 3 (by omega) (by rw [stop_nk hq0];decide) fun e m he=>⟨_,(SecE.cond (p:=(T (a+2)).pos) (p1:=(T (a+1)).pos) (p2:=(T (b+1)).pos) he hf.1 hf.2.1 hf.2.2).le (by omega),fun n g=>?_⟩
    have g1:=PE.full1 (n:=n+2) (a:=a+3) (d:=d+2) g (by rw [signK_nk hq0];decide) (by rw [stopF_nk hq0];decide) (by omega)
    have g2:=PE.choice (n:=n+4) (a:=a+1) (d:=d+1) (PE.nam (n:=n+6) hp1 (by rw [stop_nk hp2];decide) (by omega) (by omega)) hp2 (g1.le (by omega)) hq0 (PE.num (n:=n+5) hq1 (by rw [stop_nk hq2];decide) (by omega) (by omega)) (by rw [stopF_nk hq2];decide) (by rw [signK_nk hq2];decide) (by omega) (by omega)
    exact (PE.paren (n:=n+11) (hp 0 _ rfl) (by rw [typed_nk hp1];rfl) g2 hq2 hs (by omega) (by omega)).le (by omega)
   ·obtain rfl:z=b:=hz
    refine hmain 1 (by omega) hs fun e m he=>⟨_,(SecE.cast (p:=(T a).pos) he (T (a+1)).pos).le (by omega),fun n g=>?_⟩
    exact (PE.cast (n:=n+2) (hp 0 _ rfl) (hp 1 _ rfl) (hp 2 _ rfl) g (by omega) (by omega)).le (by omega)
   ·have hq0:nk (T b)=sgn 38:=hq 0 _ rfl
    have hq1:nk (T (b+1))=num (b1 51) 3:=hq 1 _ rfl
    have hq2:nk (T (b+2))=sgn 93:=hq 2 _ rfl
    obtain rfl:z=b+3:=hz
    have hf:=num_facts hq1 (by decide)
    refine hmain 2 (by omega) (by rw [stop_nk hq0];decide) fun e m he=>⟨_,?_,fun n g=>(PE.index (n:=n+8) (hp 0 _ rfl) (hp 1 _ rfl) (full_num (a:=a+2) (d:=d+1) g hq0 (by decide) hq1 hq2 (by decide) (by omega) (by omega)) hq2 hs (by omega) (by omega)).le (by omega)⟩
    rw [binX_of hq0]
    exact (SecE.index (SecE.num he hf.1 hf.2.1 hf.2.2 (by decide))).le (by omega)
   ·have hq0:nk (T b)=sgn2 38 38:=hq 0 _ rfl
    have hq1:nk (T (b+1))=nam bX:=hq 1 _ rfl
    have hq2:nk (T (b+2))=sgn 41:=hq 2 _ rfl
    obtain rfl:z=b+3:=hz
    refine hmain 2 (by omega) (by rw [stop_nk hq0];decide) fun e m he=>⟨_,?_,fun n g=>flow_x g (hp 0 _ rfl) hh.1 hq0 (by decide) hq1 hq2 hs (by omega) (by omega)⟩
    rw [binX_of hq0]
    exact (SecE.and he).le (by omega)
   ·have hq0:nk (T b)=sgn2 61 61:=hq 0 _ rfl
    have hq1:nk (T (b+1))=num (b1 51) 3:=hq 1 _ rfl
    have hq2:nk (T (b+2))=sgn 41:=hq 2 _ rfl
    obtain rfl:z=b+3:=hz
    have hf:=num_facts hq1 (by decide)
    refine hmain 2 (by omega) (by rw [stop_nk hq0];decide) fun e m he=>⟨_,?_,fun n g=>flow_p g (hp 0 _ rfl) hh.1 hq0 (by decide) hq1 hq2 hs (by omega) (by omega)⟩
    rw [binX_of hq0]
    exact (SecE.num he hf.1 hf.2.1 hf.2.2 (by decide)).le (by omega)
   ·have hq0:nk (T b)=sgn2 60 60:=hq 0 _ rfl
    have hq1:nk (T (b+1))=nam bX:=hq 1 _ rfl
    have hq2:nk (T (b+2))=sgn 41:=hq 2 _ rfl
    obtain rfl:z=b+3:=hz
    refine hmain 2 (by omega) (by rw [stop_nk hq0];decide) fun e m he=>⟨_,?_,fun n g=>flow_x g (hp 0 _ rfl) hh.1 hq0 (by decide) hq1 hq2 hs (by omega) (by omega)⟩
    rw [binX_of hq0]
    exact (SecE.opx he (by decide)).le (by omega)
   ·have hq0:nk (T b)=sgn 41:=hq 0 _ rfl
    have hp1:nk (T (a+1))=nam bX:=hp 1 _ rfl
    have hp2:nk (T (a+2))=sgn 124:=hp 2 _ rfl
    obtain rfl:z=b+1:=hz
    refine hmain 2 (by omega) (by rw [stop_nk hq0];decide) fun e m he=>⟨binX (T (a+2)) (.mk 2 (T (a+1)).pos bX zeroTok zeroType []) e,?_,fun n g=>?_⟩
    rotate_left
    ·have g1:=PE.bin2 (n:=n+2) (a:=a+1) (PE.nam (n:=n+1) hp1 (by rw [stop_nk hp2];decide) (by omega) (by omega)) (signK_nk hp2) (by decide) g (by rw [signK_nk hq0];decide) (by omega)
     exact (PE.paren (n:=n+8) (hp 0 _ rfl) (by rw [typed_nk hp1];rfl) (PE.full g1 (by rw [stopF_nk hq0];decide) (by omega)) hq0 hs (by omega) (by omega)).le (by omega)
    ·rw [binX_of hp2]
     exact (SecE.xop he (by decide)).le (by omega)
   ·have hq0:nk (T b)=sgn 38:=hq 0 _ rfl
    have hq1:nk (T (b+1))=num (b1 51) 3:=hq 1 _ rfl
    have hq2:nk (T (b+2))=sgn 41:=hq 2 _ rfl
    have hq3:nk (T (b+3))=sgn 41:=hq 3 _ rfl
    have hp1:nk (T (a+1))=sgn 40:=hp 1 _ rfl
    have hp2:nk (T (a+2))=nam bT:=hp 2 _ rfl
    have hp3:nk (T (a+3))=sgn 43:=hp 3 _ rfl
    have hp4:nk (T (a+4))=sgn 40:=hp 4 _ rfl
    obtain rfl:z=b+4:=hz
    have hf:=num_facts hq1 (by decide)
    refine hmain 5 (by omega) (by rw [stop_nk hq0];decide) fun e m he=>⟨.mk 7 (T a).pos (b1 42) zeroTok zeroType [binX (T (a+3)) (.mk 2 (T (a+2)).pos bT zeroTok zeroType []) (binX (T b) e (.mk 1 (T (b+1)).pos ⟨#[]⟩ (T (b+1)) zeroType []))],?_,fun n g=>?_⟩
    rotate_left
    ·have g1:=PE.paren (n:=n+8) (a:=a+4) (d:=d+3) hp4 hh.1 (full_num (a:=a+5) (d:=d+4) g hq0 (by decide) hq1 hq2 (by decide) (by omega) (by omega)) hq2 (by rw [stop_nk hq3];decide) (by omega) (by omega)
     have g2:=PE.bin2 (n:=n+10) (a:=a+2) (PE.nam (n:=n+9) hp2 (by rw [stop_nk hp3];decide) (by omega) (by omega)) (signK_nk hp3) (by decide) g1 (by rw [signK_nk hq3];decide) (by omega)
     have g3:=PE.paren (n:=n+16) (a:=a+1) (d:=d+1) hp1 (by rw [typed_nk hp2];rfl) (PE.full g2 (by rw [stopF_nk hq3];decide) (by omega)) hq3 hs (by omega) (by omega)
     exact (PE.sign (n:=n+19) (hp 0 _ rfl) (by decide) g3 (by omega) (by omega)).le (by omega)
    ·rw [binX_of hp3,binX_of hq0]
     exact (SecE.star (SecE.num he hf.1 hf.2.1 hf.2.2 (by decide))).le (by omega)
  intro δ hδ hst hstep
  obtain ⟨e,he,m,hm1,hm2⟩:=ih (a+(kPre o).length) (d+δ) hl' hm (by rw [hbz];exact hst) (by rw [hbz];omega) (by omega) (by omega)
  obtain ⟨e',h1,h2⟩:=hstep e m hm2
  refine ⟨e',fun n=>?_,m+3,by omega,h1⟩
  rw [show n+20 * (l.length+1)+3=(n+20 * l.length)+23 by omega]
  refine h2 _ ?_
  have:=he n
  rw [hbz] at this
  exact this
end
def flH:List UInt8:=[105,110,116,32,116,91,52,93,59,32,115,101,99,114,101,116,32,105,110,116,32,107,59,32,115,101,99,114,101,116,32,108,111,110,103,32,115,59,32,108,111,110,103,32,112,59,32,105,110,116,32,109,97,105,110,40,41,32,123,32,105,110,116,32,120,32,61,32,49,59,32]
def flA (q:Nat):List UInt8:=[[112,32,61,32],[115,32,61,32],[111,117,116,40],[114,101,116,117,114,110,32]].getD q []
def flZ (q:Nat):List UInt8:=[[59,32,114,101,116,117,114,110,32,48,59,32,125],[59,32,114,101,116,117,114,110,32,48,59,32,125],[41,59,32,114,101,116,117,114,110,32,48,59,32,125],[59,32,125]].getD q []
def flowL (q:Nat) (l:List Nat):List UInt8:=flH++(flA q++(flE l++flZ q))
def kH:List TokS:=[wrd bInt,nam bT,sgn 91,num (b1 52) 4,sgn 93,sgn 59,wrd bSecret,wrd bInt,nam bK,sgn 59,wrd bSecret,wrd bLong,nam bS,sgn 59,wrd bLong,nam bP,sgn 59,wrd bInt,nam bMain,sgn 40,sgn 41,sgn 123,wrd bInt,nam bX,sgn 61,num (b1 49) 1,sgn 59]
def kFA (q:Nat):List TokS:=[[nam bP,sgn 61],[nam bS,sgn 61],[nam bOut,sgn 40],[wrd bReturn]].getD q []
def kFZ (q:Nat):List TokS:=[[sgn 59,wrd bReturn,num (b1 48) 0,sgn 59,sgn 125],[sgn 59,wrd bReturn,num (b1 48) 0,sgn 59,sgn 125],[sgn 41,sgn 59,wrd bReturn,num (b1 48) 0,sgn 59,sgn 125],[sgn 59,sgn 125]].getD q []
theorem sc_H (r:List UInt8):Sc flH r kH:=Sc.mk 44 (by kernel_rfl) (fun n p=>by kernel_rfl) (fun p=>by kernel_rfl)
theorem sc_FA {q:Nat} (hq:q < 4) (r:List UInt8):Sc (flA q) r (kFA q):=by
 have:q=0∨q=1∨q=2∨q=3:=by omega
 rcases this with rfl|rfl|rfl|rfl
 ·exact Sc.mk 4 (by kernel_rfl) (fun n p=>by kernel_rfl) (fun p=>by kernel_rfl)
 ·exact Sc.mk 4 (by kernel_rfl) (fun n p=>by kernel_rfl) (fun p=>by kernel_rfl)
 ·exact Sc.mk 2 (by kernel_rfl) (fun n p=>by kernel_rfl) (fun p=>by kernel_rfl)
 ·exact Sc.mk 2 (by kernel_rfl) (fun n p=>by kernel_rfl) (fun p=>by kernel_rfl)
theorem sc_FZ {q:Nat} (hq:q < 4):Sc (flZ q) [] (kFZ q)∧tailB (flZ q++[]):=by
 have:q=0∨q=1∨q=2∨q=3:=by omega
 rcases this with rfl|rfl|rfl|rfl
 ·exact ⟨Sc.mk 8 (by kernel_rfl) (fun n p=>by kernel_rfl) (fun p=>by kernel_rfl),59,_,rfl,by simp⟩
 ·exact ⟨Sc.mk 8 (by kernel_rfl) (fun n p=>by kernel_rfl) (fun p=>by kernel_rfl),59,_,rfl,by simp⟩
 ·exact ⟨Sc.mk 9 (by kernel_rfl) (fun n p=>by kernel_rfl) (fun p=>by kernel_rfl),41,_,rfl,by simp⟩
 ·exact ⟨Sc.mk 3 (by kernel_rfl) (fun n p=>by kernel_rfl) (fun p=>by kernel_rfl),59,_,rfl,by simp⟩
def kW (q:Nat) (l:List Nat):List TokS:=kH++(kFA q++(kFl l++kFZ q))
theorem fl_len:∀ l,(∀ o∈l,o < 11)→(flE l).length≤1+13 * l.length∧(kFl l).length≤1+9 * l.length
 | [],_=>by show 1≤1+13 * 0∧1≤1+9 * 0;omega
 | o::l,h=>by
  have h1:=fl_len l fun x hx=>h x (by simp [hx])
  have h2:(flPre o).length+(flPost o).length≤13∧(kPre o).length+(kPost o).length≤9:=by
   rcases o_cases (h o (by simp)) with rfl|rfl|rfl|rfl|rfl|rfl|rfl|rfl|rfl|rfl|rfl<;>decide
  rw [flE,kFl]
  simp only [List.length_append,List.length_cons]
  omega
theorem flow_len {q:Nat} {l:List Nat} (hq:q < 4) (hl:∀ o∈l,o < 11) (h8:l.length≤8):(flowL q l).length≤300∧(kW q l).length≤200:=by
 have h1:=fl_len l hl
 have h2:(flA q).length+(flZ q).length≤20∧(kFA q).length+(kFZ q).length≤10:=by
  have:q=0∨q=1∨q=2∨q=3:=by omega
  rcases this with rfl|rfl|rfl|rfl<;>decide
 have h3:flH.length=71∧kH.length=27:=⟨rfl,rfl⟩
 unfold flowL kW
 simp only [List.length_append]
 omega
theorem flow_scan {q:Nat} {l:List Nat} (hq:q < 4) (hl:∀ o∈l,o < 11) (h8:l.length≤8):∃ us,scanL 1000 0 (flowL q l)=some us∧us.map nk=kW q l++[⟨0,⟨#[]⟩,0,0,false,false⟩] :=
 Sc.all (Sc.app (sc_H _) (Sc.app (sc_FA hq _) (Sc.app (sc_fl l _ hl (sc_FZ hq).2) (sc_FZ hq).1))) (by have:=flow_len hq hl h8;omega)
section
variable {T:Nat→TokS}
def gT (T:Nat→TokS):DeclS:=⟨⟨⟨false,bInt,false,⟨#[]⟩,(T 0).pos⟩,0,[4]⟩,bT,(T 1).pos⟩
def gK (T:Nat→TokS):DeclS:=⟨⟨⟨true,bInt,false,⟨#[]⟩,(T 6).pos⟩,0,[]⟩,bK,(T 8).pos⟩
def gS (T:Nat→TokS):DeclS:=⟨⟨⟨true,bLong,false,⟨#[]⟩,(T 10).pos⟩,0,[]⟩,bS,(T 12).pos⟩
def gP (T:Nat→TokS):DeclS:=⟨⟨⟨false,bLong,false,⟨#[]⟩,(T 14).pos⟩,0,[]⟩,bP,(T 15).pos⟩
theorem glob_T (h:Seg T 0 kH):outerS T 1000 ⟨[],[]⟩ startP=some (⟨[gT T],[]⟩,⟨6,0,0,0,0⟩):=by
 rw [← withK_eq h]
 kernel_rfl
theorem glob_K (h:Seg T 0 kH):outerS T 1000 ⟨[gT T],[]⟩ ⟨6,0,0,0,0⟩=some (⟨[gT T,gK T],[]⟩,⟨10,0,0,0,0⟩):=by
 rw [← withK_eq h]
 kernel_rfl
theorem glob_S (h:Seg T 0 kH):outerS T 1000 ⟨[gT T,gK T],[]⟩ ⟨10,0,0,0,0⟩=some (⟨[gT T,gK T,gS T],[]⟩,⟨14,0,0,0,0⟩):=by
 rw [← withK_eq h]
 kernel_rfl
theorem glob_P (h:Seg T 0 kH):outerS T 1000 ⟨[gT T,gK T,gS T],[]⟩ ⟨14,0,0,0,0⟩=some (⟨[gT T,gK T,gS T,gP T],[]⟩,⟨17,0,0,0,0⟩):=by
 rw [← withK_eq h]
 kernel_rfl
theorem decl_1 {n:Nat} (h:Seg T 0 kH):QS T (n+10) 22 1 (.mk 2 (T 22).pos (declI T 22 bInt bX) (some (.mk 1 (T 25).pos ⟨#[]⟩ (T 25) zeroType [])) []) 27:=by
 have h2:nk (T 26)=sgn 59:=h 26 _ rfl
 have e1:PE T (n+3) .unary 25 3 (.mk 1 (T 25).pos ⟨#[]⟩ (T 25) zeroType []) 26:=PE.num (h 25 _ rfl) (by rw [stop_nk h2];decide) (by omega) (by omega)
 exact QS.decl (n:=n+8) (h 22 _ rfl) (.inl rfl) (h 23 _ rfl) (h 24 _ rfl) ((PE.full1 (n:=n+2) e1 (by rw [signK_nk h2];decide) (by rw [stopF_nk h2];decide) (by omega)).le (by omega)) h2 (by omega) (by omega)
theorem ret0_at {a n D:Nat} (h0:nk (T a)=wrd bReturn) (h1:nk (T (a+1))=num (b1 48) 0) (h2:nk (T (a+2))=sgn 59) (ha:a < 2000) (hd:D < 50):QS T (n+10) a D (.mk 11 (T a).pos zeroDecl (some (.mk 1 (T (a+1)).pos ⟨#[]⟩ (T (a+1)) zeroType [])) []) (a+3):=by
 have e1:PE T (n+3) .unary (a+1) (D+1+1) (.mk 1 (T (a+1)).pos ⟨#[]⟩ (T (a+1)) zeroType []) (a+2):=PE.num h1 (by rw [stop_nk h2];decide) (by omega) (by omega)
 exact QS.ret (n:=n+9) h0 (by rw [wordy_nk h1];rfl) ((PE.full1 (n:=n+2) e1 (by rw [signK_nk h2];decide) (by rw [stopF_nk h2];decide) (by omega)).le (by omega)) h2 (by omega) (by omega)
theorem flow_top {b k2:Nat} {kids:List StmtS} {st:CS} (h:Seg T 0 kH) (hbody:QS T 1000 21 0 (.mk 3 (T 21).pos zeroDecl none (.mk 2 (T 22).pos (declI T 22 bInt bX) (some (.mk 1 (T 25).pos ⟨#[]⟩ (T 25) zeroType [])) []::kids)) b) (hb:b < 2000) (hz:(T b).kind=0) (hl:kids.length≤800) (hst:∀ bd,GoX 1000 999 kids [bd] stF st) (hk:st.fk=k2) :
 ∃ u s,outersS T 1000 1000 ⟨[],[]⟩ startP=some (u,s)∧s.fk=0∧∃ r,checkU u=some r∧(match r with
 | .error p=>p.1
 | .ok _=>0)=k2:=by
 obtain ⟨k',ho⟩:=main_outer (n:=999) (a:=17) (k:=0) (gs:=[gT T,gK T,gS T,gP T]) (h 17 _ rfl) (h 18 _ rfl) (h 19 _ rfl) (h 20 _ rfl) (h 21 _ rfl) hbody (by omega) (by omega)
 have kd:∀ i q,kH[i]?=some q→q.kind≠0→(T i).kind≠0:=fun i q hi hq=>by
  have:=h i q hi
  rw [Nat.zero_add] at this
  rw [kind_nk this];exact hq
 have houter:=(outers_step (N:=1000) (n:=999) rfl (kd 0 _ rfl (by decide)) (glob_T h)).trans ((outers_step (n:=998) rfl (kd 6 _ rfl (by decide)) (glob_K h)).trans ((outers_step (n:=997) rfl (kd 10 _ rfl (by decide)) (glob_S h)).trans ((outers_step (n:=996) rfl (kd 14 _ rfl (by decide)) (glob_P h)).trans ((outers_step (n:=995) rfl (kd 17 _ rfl (by decide)) ho).trans (outers_end (n:=994) hz)))))
 refine ⟨_,_,houter,rfl,?_⟩
 have hf:=num_facts (show nk (T 25)=num (b1 49) 1 from h 25 _ rfl) (by decide)
 unfold checkU
 rw [show globalsM [gT T,gK T,gS T,gP T] startC=some { stF0 with ret:=⟨0,false,false⟩,depth:=0 } by kernel_rfl]
 simp only [Option.bind_eq_bind,Option.bind_some]
 rw [if_neg (by
  rintro (x|x|x)
  ·exact x rfl
  ·exact absurd x (by decide)
  ·exact absurd x (show ¬ (eqB bT bMain || (eqB bK bMain || (eqB bS bMain || (eqB bP bMain || false))))=true by decide))]
 rw [show typS ⟨⟨false,bInt,false,⟨#[]⟩,(T 17).pos⟩,0,[]⟩=some (.int (i4 false)) from rfl]
 simp only [Option.bind_some]
 rw [if_neg (show ¬ (i4 false).sec=true by decide),if_neg (show ¬ stF0.fk≠0 from fun x=>x rfl)]
 obtain ⟨b1',hb1⟩:=let_x (N:=999) (p:=(T 22).pos) (q:=(T 25).pos) (d:=declI T 22 bInt bX) rfl rfl hf.1 hf.2.1 hf.2.2
 obtain ⟨bd,hbd⟩:=block_of (N:=1000) (n:=999) (p:=(T 21).pos) (kids:=.mk 2 (T 22).pos (declI T 22 bInt bX) (some (.mk 1 (T 25).pos ⟨#[]⟩ (T 25) zeroType [])) []::kids) (st:={ stF0 with depth:=0 }) (st':=st) (show 0 < 900 by omega) (by simp only [List.length_cons];omega) (GoX.cons (st':=stF) rfl (let_stm.trans hb1) (hst b1'))
 rw [show (⟨stF0.fk,stF0.fa,stF0.gl,stF0.data,i4 false,stF0.lc,stF0.nm,0⟩:CS)={ stF0 with depth:=0 } from rfl,hbd]
 simp only [Option.bind_some]
 rw [leave_fk,hk]
 by_cases h0:k2=0
 ·subst h0
  exact ⟨_,if_neg (fun x=>x rfl),rfl⟩
 ·exact ⟨_,if_pos h0,rfl⟩
end
theorem flows_law {q:Nat} {l:List Nat} (hq:q < 4) (hl:∀ o∈l,o < 11) (h8:l.length≤8):ckindT (flowL q l)=some (if q=1 then 0 else 15):=by
 obtain ⟨us,hs,hk⟩:=flow_scan hq hl h8
 have hlen:=(flow_len hq hl h8).2
 have hus:us.length≤1024:=by
  have:=congrArg List.length hk
  simp only [List.length_map,List.length_append,List.length_cons,List.length_nil] at this
  omega
 obtain ⟨T,hT⟩:∃ T,T=tokN us:=⟨_,rfl⟩
 have hS:Seg T 0 (kW q l++[⟨0,⟨#[]⟩,0,0,false,false⟩]):=by subst hT;exact Seg.of hk
 have hS1:=hS.left
 unfold kW at hS1
 have hH:=hS1.left
 have hA:Seg T 27 (kFA q):=by have:=hS1.right.left;rwa [show 0+kH.length=27 from rfl] at this
 have hE:Seg T (27+(kFA q).length) (kFl l):=by have:=hS1.right.right.left;rwa [show 0+kH.length=27 from rfl] at this
 have hZ:Seg T (27+(kFA q).length+(kFl l).length) (kFZ q):=by have:=hS1.right.right.right;rwa [show 0+kH.length=27 from rfl] at this
 have hN:nk (T ((kW q l).length))=⟨0,⟨#[]⟩,0,0,false,false⟩:=by have:=hS.right.head;rwa [Nat.zero_add] at this
 have hWl:(kW q l).length=27+(kFA q).length+(kFl l).length+(kFZ q).length:=by
  unfold kW
  simp only [List.length_append]
  rw [show kH.length=27 from rfl];omega
 rw [hWl] at hN hlen
 have hh:=head_of hl hE
 have hmain:∃ u s,outersS T 1000 1000 ⟨[],[]⟩ startP=some (u,s)∧s.fk=0∧∃ r,checkU u=some r∧(match r with
  | .error p=>p.1
  | .ok _=>0)=(if q=1 then 0 else 15):=by
  obtain ⟨c,hc⟩:∃ c,c=27+(kFA q).length+(kFl l).length:=⟨_,rfl⟩
  rw [← hc] at hZ hN hlen
  have ho:nk (T c)=(if q=2 then sgn 41 else sgn 59):=by
   have:q=0∨q=1∨q=2∨q=3:=by omega
   rcases this with rfl|rfl|rfl|rfl<;>exact hZ 0 _ rfl
  obtain ⟨e,he,m,hm1,hm2⟩:=flow_e l (27+(kFA q).length) 5 hl hE (by rw [← hc,stop_nk ho];split<;>decide) (by omega) (by omega) h8
  obtain ⟨e',he',m',hm1',hm2'⟩:=flow_e l (27+(kFA q).length) 4 hl hE (by rw [← hc,stop_nk ho];split<;>decide) (by omega) (by omega) h8
  obtain ⟨e3,he3,m3,hm13,hm23⟩:=flow_e l (27+(kFA q).length) 3 hl hE (by rw [← hc,stop_nk ho];split<;>decide) (by omega) (by omega) h8
  rw [← hc] at he he' he3
  have hsec:∀ {m e},m≤3 * l.length→SecE (m+1) e→SecE (900+1) e:=fun h1 h2=>h2.le (by omega)
  have hfuel:∀ N,200≤N→∃ n,N=n+20 * l.length+3:=fun N hN=>⟨N - 3 - 20 * l.length,by omega⟩
  obtain ⟨f1,hf1⟩:=hfuel 900 (by omega)
  have key:∀ (x:StmtS) (z k2:Nat),QS T 997 27 1 x z→(wordy (T 27) (b1 125)=false)→nk (T z)=wrd bReturn→nk (T (z+1))=num (b1 48) 0→nk (T (z+2))=sgn 59→nk (T (z+3))=sgn 125→(T (z+4)).kind=0→z < 1000 →
   (∃ bd st',stmtM 1000 999 x stF=some (bd,st')∧((st'=stF∧k2=0)∨(st'.fk=15∧k2=15)))→∃ u s,outersS T 1000 1000 ⟨[],[]⟩ startP=some (u,s)∧s.fk=0∧∃ r,checkU u=some r∧(match r with
  | .error p=>p.1
  | .ok _=>0)=k2:=by
   intro x z k2 hx hw h0 h1 h2 h3 h4 hz hst
   have hbody:=QS.block (n:=999) (hH 21 _ rfl) (QB.cons (n:=998) (by rw [wordy_nk (hH 22 _ rfl)];decide) (Nat.le_of_ble_eq_true rfl) (decl_1 (n:=988) hH) (QB.cons (n:=997) hw (Nat.le_of_ble_eq_true rfl) hx (QB.cons (n:=996) (by rw [wordy_nk h0];decide) (Nat.le_of_ble_eq_true rfl) (ret0_at (n:=986) h0 h1 h2 (by omega) (by omega)) (QB.end (n:=995) h3 (by omega) (Nat.le_of_ble_eq_true rfl))))) (by omega) (by omega)
   have hf:=num_facts h1 (by decide)
   obtain ⟨bd,st',g1,g2⟩:=hst
   obtain ⟨b3,hb3⟩:=ret_0 (N:=999) (n:=998) (p:=(T z).pos) (p1:=(T (z+1)).pos) hf.1 hf.2.1 hf.2.2
   rcases g2 with ⟨rfl,rfl⟩|⟨g2,rfl⟩
   ·exact flow_top (st:=stF) hH hbody (by omega) h4 (Nat.le_of_ble_eq_true rfl) (fun _=>GoX.cons (st':=stF) rfl g1 (GoX.cons (st':=stF) rfl hb3 GoX.nil)) rfl
   ·exact flow_top (st:=st') hH hbody (by omega) h4 (Nat.le_of_ble_eq_true rfl) (fun _=>GoX.cons (st':=st') rfl g1 (GoX.stop (by rw [g2];decide))) g2
  have:q=0∨q=1∨q=2∨q=3:=by omega
  rcases this with rfl|rfl|rfl|rfl
  ·have ho:nk (T c)=sgn 59:=ho
   have hc29:29 < c:=(he' 0).1
   have g1:=PE.full1 (n:=f1+20 * l.length+2) (a:=29) (d:=3) (he' f1) (by rw [signK_nk ho];decide) (by rw [stopF_nk ho];decide) (by omega)
   have g2:=PE.assign (n:=f1+20 * l.length+9) (a:=27) (d:=2) (PE.nam (n:=f1+20 * l.length+8) (hA 0 _ rfl) (by rw [stop_nk (show nk (T 28)=sgn 61 from hA 1 _ rfl)];decide) (by omega) (by omega)) (hA 1 _ rfl) (g1.le (by omega)) (by omega) (by omega)
   have g3:=QS.expr (n:=996) (d:=1) (hA 0 _ rfl) (g2.le (by omega)) ho (by omega) (by omega)
   obtain ⟨bd,st',k1,k2⟩:=set_p (N:=98) (n:=998) (p:=(T 27).pos) (p1:=(T 28).pos) (p2:=(T 27).pos) (hsec hm1' hm2')
   exact key _ (c+1) 15 g3 (by rw [wordy_nk (show nk (T 27)=nam bP from hA 0 _ rfl)];decide) (hZ 1 _ rfl) (hZ 2 _ rfl) (hZ 3 _ rfl) (hZ 4 _ rfl) (kind_nk hN) (by omega) ⟨bd,st',k1,.inr ⟨k2,rfl⟩⟩
  ·have ho:nk (T c)=sgn 59:=ho
   have hc29:29 < c:=(he' 0).1
   have g1:=PE.full1 (n:=f1+20 * l.length+2) (a:=29) (d:=3) (he' f1) (by rw [signK_nk ho];decide) (by rw [stopF_nk ho];decide) (by omega)
   have g2:=PE.assign (n:=f1+20 * l.length+9) (a:=27) (d:=2) (PE.nam (n:=f1+20 * l.length+8) (hA 0 _ rfl) (by rw [stop_nk (show nk (T 28)=sgn 61 from hA 1 _ rfl)];decide) (by omega) (by omega)) (hA 1 _ rfl) (g1.le (by omega)) (by omega) (by omega)
   have g3:=QS.expr (n:=996) (d:=1) (hA 0 _ rfl) (g2.le (by omega)) ho (by omega) (by omega)
   obtain ⟨bd,k1⟩:=set_s (N:=98) (n:=998) (p:=(T 27).pos) (p1:=(T 28).pos) (p2:=(T 27).pos) (hsec hm1' hm2')
   exact key _ (c+1) 0 g3 (by rw [wordy_nk (show nk (T 27)=nam bS from hA 0 _ rfl)];decide) (hZ 1 _ rfl) (hZ 2 _ rfl) (hZ 3 _ rfl) (hZ 4 _ rfl) (kind_nk hN) (by omega) ⟨bd,stF,k1,.inl ⟨rfl,rfl⟩⟩
  ·have ho:nk (T c)=sgn 41:=ho
   have ho2:nk (T (c+1))=sgn 59:=hZ 1 _ rfl
   have hc29:29 < c:=(he 0).1
   have hh2:wordy (T 29) (b1 41)=false:=hh.2.1
   have g1:=PE.full1 (n:=f1+20 * l.length+2) (a:=29) (d:=4) (he f1) (by rw [signK_nk ho];decide) (by rw [stopF_nk ho];decide) (by omega)
   have g2:=PE.call (n:=f1+20 * l.length+6) (a:=27) (d:=3) (hA 0 _ rfl) (hA 1 _ rfl) hh2 (g1.le (by omega)) ho (by rw [stop_nk ho2];decide) (by omega) (by omega)
   have g4:=PE.full1 (n:=f1+20 * l.length+7) (a:=27) (d:=2) g2 (by rw [signK_nk ho2];decide) (by rw [stopF_nk ho2];decide) (by omega)
   have g3:=QS.expr (n:=996) (d:=1) (hA 0 _ rfl) (g4.le (by omega)) ho2 (by omega) (by omega)
   obtain ⟨bd,st',k1,k2⟩:=out_e (N:=98) (n:=998) (p:=(T 27).pos) (p1:=(T 28).pos) (p2:=(T 27).pos) (hsec hm1 hm2)
   exact key _ (c+2) 15 g3 (by rw [wordy_nk (show nk (T 27)=nam bOut from hA 0 _ rfl)];decide) (hZ 2 _ rfl) (hZ 3 _ rfl) (hZ 4 _ rfl) (hZ 5 _ rfl) (kind_nk hN) (by omega) ⟨bd,st',k1,.inr ⟨k2,rfl⟩⟩
  ·have ho:nk (T c)=sgn 59:=ho
   have ho2:nk (T (c+1))=sgn 125:=hZ 1 _ rfl
   have hc29:28 < c:=(he3 0).1
   have hh3:wordy (T 28) (b1 59)=false:=hh.2.2
   have g1:=PE.full1 (n:=f1+20 * l.length+2) (a:=28) (d:=2) (he3 f1) (by rw [signK_nk ho];decide) (by rw [stopF_nk ho];decide) (by omega)
   have g3:=QS.ret (n:=996) (a:=27) (d:=1) (hA 0 _ rfl) hh3 (g1.le (by omega)) ho (by omega) (by omega)
   have hbody:=QS.block (n:=999) (hH 21 _ rfl) (QB.cons (n:=998) (by rw [wordy_nk (hH 22 _ rfl)];decide) (Nat.le_of_ble_eq_true rfl) (decl_1 (n:=988) hH) (QB.cons (n:=997) (by rw [wordy_nk (show nk (T 27)=wrd bReturn from hA 0 _ rfl)];decide) (Nat.le_of_ble_eq_true rfl) g3 (QB.end (n:=996) ho2 (by omega) (Nat.le_of_ble_eq_true rfl)))) (by omega) (by omega)
   obtain ⟨bd,st',k1,k2⟩:=ret_e (N:=99) (n:=998) (p:=(T 27).pos) (hsec hm13 hm23)
   exact flow_top (st:=st') hH hbody (by omega) (kind_nk hN) (Nat.le_of_ble_eq_true rfl) (fun _=>GoX.cons (st':=st') rfl k1 GoX.nil) k2
 obtain ⟨u,s,ho,hf,r,hc,hr⟩:=hmain
 unfold ckindT checkT parseT
 rw [hs,Option.bind_some,parseL_eq hus,← hT]
 unfold parseU
 rw [ho]
 simp only [Option.map_some,Option.bind_eq_bind,Option.bind_some]
 rw [if_neg (fun x=>x hf)]
 simp only [hc,Option.map_some]
 exact congrArg some hr
end Go.Proofs.YtgpigfcagppohaaGreatDoor
