/-
  What the functions that the law reaches compute,told by plain data;it holds of programs that pass the check of right form and are light.
-/
import Derived.Carry
import Derived.LaidMore
import Derived.Lib.LaidTab
import Derived.Lib.Space
import Derived.OpenShut
import Derived.ProofKit
import Derived.Shelf.Vars
import Derived.Stop.Joined
import Derived.Test.YtbmmchaaiakanaaDoorCards
import Derived.Test.YtbmmchaaiakanaaDoorChecked
import Derived.Test.YtbmmchaaiakanaaDoorR7
import Derived.Test.YtbmmchaaiakanaaDoorS2
import Derived.Test.YtbmmchaaiakanaaDoorTie
set_option linter.unusedVariables false
set_option linter.unusedSimpArgs false
namespace Go.Proofs.YtbmmchaaiakanaaDoor
theorem tok_key {L:List TokS} {ks:List Key} (h:keyL L=ks) {i:Nat} {k:Key} (hi:ks[i]?=some k):keyT (tokN L i)=k:=by
 subst h
 unfold keyL at hi
 rw [List.getElem?_map] at hi
 obtain ⟨t,h1,h2⟩:=Option.map_eq_some_iff.1 hi
 have hlt:=(List.getElem?_eq_some_iff.1 h1).1
 unfold tokN
 rw [show min i (L.length - 1)=i by omega,List.getD_eq_getElem?_getD,h1]
 exact h2
section
variable {T:Nat→TokS} {a d k g:Nat}
def wordyK (k:Key) (s:ByteArray):Bool:=(k.1 == 4 || k.1 == 2) && eqB k.2 s
theorem wordy_key {t:TokS} {q:Key} (h:keyT t=q) (s:ByteArray):wordy t s=wordyK q s:=by subst h;rfl
theorem kind_key {t:TokS} {q:Key} (h:keyT t=q):t.kind=q.1:=by subst h;rfl
theorem text_key {t:TokS} {q:Key} (h:keyT t=q):t.text=q.2:=by subst h;rfl
theorem take_noK {s:ByteArray} (h:wordy (T a) s=false):PS.take T ⟨a,d,k,0,g⟩ s=some (false,⟨a,d,k,0,g⟩):=by
 unfold PS.take
 rw [if_neg]
 rintro ⟨_,h2⟩
 have h2:wordy (T a) s=true:=h2
 rw [h] at h2;cases h2
theorem take_yes {s:ByteArray} (h:wordy (T a) s=true) (ha:a < 1000000):PS.take T ⟨a,d,k,0,g⟩ s=some (true,⟨a+1,d,k,0,g⟩):=by
 unfold PS.take PS.adv
 rw [if_pos ⟨rfl,h⟩,if_pos ha];rfl
theorem want_yes {s:ByteArray} (h:wordy (T a) s=true) (ha:a < 1000000):PS.want T ⟨a,d,k,0,g⟩ s=some ⟨a+1,d,k,0,g⟩:=by
 unfold PS.want
 rw [take_yes h ha];rfl
theorem adv_ok (ha:a < 1000000):PS.adv ⟨a,d,k,0,g⟩=some ⟨a+1,d,k,0,g⟩:=by unfold PS.adv;rw [if_pos ha]
theorem down_ok (hd:d < 60):PS.down T ⟨a,d,k,0,g⟩=some ⟨a,d+1,k,0,g⟩:=by
 unfold PS.down
 dsimp only
 rw [if_pos (by omega),if_neg (by omega)]
theorem up_ok:PS.up ⟨a,d+1,k,0,g⟩=some ⟨a,d,k,0,g⟩:=by
 unfold PS.up
 dsimp only
 rw [if_pos (by omega)];rfl
theorem node_ok (hk:k < 6000):PS.node T ⟨a,d,k,0,g⟩=some ⟨a,d,k+1,0,g⟩:=by
 unfold PS.node
 dsimp only
 rw [if_pos (by omega),if_neg (by omega)]
theorem exprS_ok {op pos:Nat} {text:ByteArray} {kids:List ExprS} (hk:k < 6000):exprS T ⟨a,d,k,0,g⟩ op pos text kids=some (.mk op pos text zeroTok zeroType kids,⟨a,d,k+1,0,g⟩):=by
 unfold exprS
 rw [node_ok hk];rfl
theorem upE_ok {e:ExprS}:upE (some (e,⟨a,d+1,k,0,g⟩))=some (e,⟨a,d,k,0,g⟩):=by
 unfold upE
 simp only [Option.bind_eq_bind,Option.bind_some,up_ok]
theorem un_sign {n j b k':Nat} {e:ExprS} (hk:keyT (T a)=(4,b1 (sgC5 j))) (hj:j < 5) (ha:a < 1000000) (hd:d < 60) (h:parseE T n .unary ⟨a+1,d+1,k,0,g⟩=some (e,⟨b,d+1,k',0,g⟩)) (hk':k' < 6000) :
 parseE T (n+1) .unary ⟨a,d,k,0,g⟩=some (.mk 7 (T a).pos (b1 (sgC5 j)) zeroTok zeroType [e],⟨b,d,k'+1,0,g⟩):=by
 have h1:(T a).kind=4:=kind_key hk
 have h2:(T a).text=b1 (sgC5 j):=text_key hk
 have h3:unaries.any (fun x=>eqB (T a).text x)=true:=by
  rw [h2]
  match j,hj with
  | 0,_=>decide
  | 1,_=>decide
  | 2,_=>decide
  | 3,_=>decide
  | 4,_=>decide
 rw [parseE,down_ok hd]
 simp only [Option.bind_eq_bind,Option.bind_some,PS.tok,ne_eq,not_true_eq_false,if_false]
 rw [if_pos ⟨h1,h3⟩,adv_ok ha]
 simp only [Option.bind_some,h]
 rw [exprS_ok hk',h2,upE_ok]
def StopK (q:Key):Prop:=q=(4,b1 41)∨q=(4,b1 59)
theorem stop_wordy {q:Key} (h:StopK q) (s:ByteArray) (h1:eqB (b1 41) s=false) (h2:eqB (b1 59) s=false):wordyK q s=false:=by
 rcases h with rfl|rfl
 ·unfold wordyK;rw [h1];rfl
 ·unfold wordyK;rw [h2];rfl
theorem post_stop {n:Nat} {e:ExprS} (hq:StopK (keyT (T a))):parseE T (n+1) (.post e) ⟨a,d,k,0,g⟩=some (e,⟨a,d,k,0,g⟩):=by
 rw [parseE]
 have hw:∀ s,eqB (b1 41) s=false→eqB (b1 59) s=false→(PS.is T ⟨a,d,k,0,g⟩ s)=false:=fun s h1 h2=>by
  show wordy (T a) s=false
  rw [wordy_key rfl];exact stop_wordy hq s h1 h2
 rw [if_neg (fun h=>h rfl),hw _ (by decide) (by decide),hw _ (by decide) (by decide),hw _ (by decide) (by decide),hw _ (by decide) (by decide),hw _ (by decide) (by decide),hw _ (by decide) (by decide)]
 rfl
theorem un_var {n:Nat} (hk:keyT (T a)=(1,b1 120)) (hq:StopK (keyT (T (a+1)))) (ha:a < 1000000) (hd:d < 60) (hn:k < 6000) :
 parseE T (n+2) .unary ⟨a,d,k,0,g⟩=some (.mk 2 (T a).pos (b1 120) zeroTok zeroType [],⟨a+1,d,k+1,0,g⟩):=by
 have h1:(T a).kind=1:=kind_key hk
 have h2:(T a).text=b1 120:=text_key hk
 have h3:¬ (T a).kind=4:=by omega
 rw [parseE,down_ok hd]
 simp only [Option.bind_eq_bind,Option.bind_some,PS.tok,ne_eq,not_true_eq_false,if_false]
 rw [if_neg (fun h=>h3 h.1),if_neg (fun h=>h3 h.1),if_neg (fun h=>h3 h.1),take_noK (by rw [wordy_key hk];decide)]
 simp only [Option.bind_some,Bool.false_eq_true,if_false]
 have hp:parseE T (n+1) .primary ⟨a,d+1,k,0,g⟩=some (.mk 2 (T a).pos (b1 120) zeroTok zeroType [],⟨a+1,d+1,k+1,0,g⟩):=by
  rw [parseE]
  rw [show PS.tok T ⟨a,d+1,k,0,g⟩=T a from rfl,if_neg (by omega),if_pos h1,adv_ok ha]
  simp only [Option.bind_eq_bind,Option.bind_some]
  rw [exprS_ok hn,h2]
 rw [hp]
 simp only [Option.bind_some]
 rw [post_stop hq,upE_ok]
def ChainE:List Nat→ExprS→ExprS→Prop
 | [],e,e0=>e=e0
 | j::js,e,e0=>∃ pos e',e=.mk 7 pos (b1 (sgC5 j)) zeroTok zeroType [e']∧ChainE js e' e0
theorem un_signs {n b c:Nat}:∀ (js:List Nat) (a d k:Nat),(∀ i j,js[i]?=some j→keyT (T (a+i))=(4,b1 (sgC5 j))∧j < 5)→a+js.length < 1000000→d+js.length < 60→k+c+js.length < 6000 →
 (∃ e0,parseE T n .unary ⟨a+js.length,d+js.length,k,0,g⟩=some (e0,⟨b,d+js.length,k+c,0,g⟩)∧∃ p,e0=.mk 2 p (b1 120) zeroTok zeroType []) →
 ∃ e,parseE T (n+js.length) .unary ⟨a,d,k,0,g⟩=some (e,⟨b,d,k+c+js.length,0,g⟩)∧∃ e0 p,ChainE js e e0∧e0=.mk 2 p (b1 120) zeroTok zeroType []:=by
 intro js
 induction js with
 | nil=>intro a d k _ _ _ _ h;obtain ⟨e0,h1,p,h2⟩:=h;exact ⟨e0,h1,e0,p,rfl,h2⟩
 | cons j js ih =>
  intro a d k hT ha hd hk h
  simp only [List.length_cons] at ha hd hk h ⊢
  obtain ⟨h1,h2⟩:=hT 0 j rfl
  obtain ⟨e,g1,e0,p,g2,g3⟩:=ih (a+1) (d+1) k (fun i j' hi=>by
   have:=hT (i+1) j' (by simpa using hi)
   rw [show a+1+i=a+(i+1) by omega];exact this) (by omega) (by omega) (by omega) (by
   rw [show a+1+js.length=a+(js.length+1) by omega,show d+1+js.length=d+(js.length+1) by omega];exact h)
  have hlt:k+c+js.length < 6000:=by omega
  refine ⟨_,un_sign h1 h2 (by omega) (by omega) g1 hlt,e0,p,⟨_,_,rfl,g2⟩,g3⟩
theorem bin_stop {n q:Nat} {e:ExprS} (hq:StopK (keyT (T a))):parseE T (n+1) (.binL q e) ⟨a,d,k,0,g⟩=some (e,⟨a,d,k,0,g⟩):=by
 have h1:(T a).kind=4:=by
  rcases hq with h|h
  ·exact kind_key h
  ·exact kind_key h
 have h2:signK (T a)=0:=by
  unfold signK
  rw [if_pos h1]
  rcases hq with h|h
  ·rw [text_key h];decide
  ·rw [text_key h];decide
 rw [parseE]
 rw [if_neg (fun h=>h rfl)]
 dsimp only
 rw [show PS.tok T ⟨a,d,k,0,g⟩=T a from rfl,if_pos (.inr h2)]
theorem full_stop {n b k':Nat} {e:ExprS} (hq:StopK (keyT (T b))) (hd:d < 60) (h:parseE T (n+1) .unary ⟨a,d+1,k,0,g⟩=some (e,⟨b,d+1,k',0,g⟩)):parseE T (n+4) .full ⟨a,d,k,0,g⟩=some (e,⟨b,d,k',0,g⟩):=by
 have hb:parseE T (n+2) (.binary 1) ⟨a,d+1,k,0,g⟩=some (e,⟨b,d+1,k',0,g⟩):=by
  rw [parseE]
  simp only [Option.bind_eq_bind,h,Option.bind_some]
  exact bin_stop hq
 have hc:parseE T (n+3) .choice ⟨a,d+1,k,0,g⟩=some (e,⟨b,d+1,k',0,g⟩):=by
  rw [parseE]
  simp only [Option.bind_eq_bind,hb,Option.bind_some]
  rw [take_noK (by rw [wordy_key rfl];exact stop_wordy hq _ (by decide) (by decide))]
  simp only [Option.bind_some,Bool.false_eq_true,if_false]
 rw [parseE,down_ok hd]
 simp only [Option.bind_eq_bind,Option.bind_some,ne_eq,not_true_eq_false,if_false,hc]
 have h1:(T b).kind=4:=by
  rcases hq with h|h
  ·exact kind_key h
  ·exact kind_key h
 have h2:assigns.any (fun a=>eqB (T b).text a)=false:=by
  rcases hq with h|h
  ·rw [text_key h];decide
  ·rw [text_key h];decide
 rw [show PS.tok T ⟨b,d+1,k',0,g⟩=T b from rfl,if_neg (by simp [h1]),if_neg (by rw [h2];decide)]
 exact upE_ok
theorem un_paren {n b k':Nat} {e:ExprS} (hk:keyT (T a)=(4,b1 40)) (hn:(T (a+1)).kind≠2) (hb:keyT (T b)=(4,b1 41)) (hq:StopK (keyT (T (b+1)))) (ha:a < 1000000) (hb2:b < 1000000) (hd:d+1 < 60) (h:parseE T (n+1) .unary ⟨a+1,d+2,k,0,g⟩=some (e,⟨b,d+2,k',0,g⟩)) :
 parseE T (n+7) .unary ⟨a,d,k,0,g⟩=some (e,⟨b+1,d,k',0,g⟩):=by
 have h1:(T a).kind=4:=kind_key hk
 have h2:(T a).text=b1 40:=text_key hk
 have hf:=full_stop (n:=n) (d:=d+1) (.inl hb) hd h
 have hp:parseE T (n+5) .paren ⟨a,d+1,k,0,g⟩=some (e,⟨b+1,d+1,k',0,g⟩):=by
  rw [parseE,want_yes (by rw [wordy_key hk];decide) ha]
  simp only [Option.bind_eq_bind,Option.bind_some,hf]
  rw [want_yes (by rw [wordy_key hb];decide) hb2]
  rfl
 have hm:parseE T (n+6) .primary ⟨a,d+1,k,0,g⟩=some (e,⟨b+1,d+1,k',0,g⟩):=by
  rw [parseE]
  rw [show PS.tok T ⟨a,d+1,k,0,g⟩=T a from rfl,if_neg (by omega),if_neg (by omega),if_pos (show PS.is T ⟨a,d+1,k,0,g⟩ (b1 40)=true by show wordy (T a) (b1 40)=true;rw [wordy_key hk];decide)]
  exact hp
 rw [parseE,down_ok (by omega)]
 simp only [Option.bind_eq_bind,Option.bind_some,PS.tok,ne_eq,not_true_eq_false,if_false]
 have ht:typedT (T (a+1))=false:=by
  unfold typedT
  rw [beq_eq_false_iff_ne.2 hn];rfl
 rw [if_neg (by rw [h2];intro h;exact absurd h.2 (by decide)),if_neg (by rw [h2];intro h;exact absurd h.2 (by decide)),if_neg (by rw [ht];intro h;rcases h.2.2 with h|h;cases h;exact h ha),take_noK (by rw [wordy_key hk];decide)]
 simp only [Option.bind_some,Bool.false_eq_true,if_false,hm]
 rw [post_stop hq,upE_ok]
theorem nest_un {n:Nat} {js:List Nat} (hx5:∀ j∈js,j < 5):∀ (m a d k:Nat),(∀ i,i < m→keyT (T (a+i))=(4,b1 40))→(∀ i j,js[i]?=some j→keyT (T (a+m+i))=(4,b1 (sgC5 j)))→keyT (T (a+m+js.length))=(1,b1 120)→(∀ i,i < m→keyT (T (a+m+js.length+1+i))=(4,b1 41))→StopK (keyT (T (a+m+js.length+1+m))) →
 a+2 * m+js.length+2 < 1000000→d+2 * m+js.length < 59→k+js.length+1 < 6000 →
 ∃ e,parseE T (n+2+js.length+6 * m) .unary ⟨a,d,k,0,g⟩=some (e,⟨a+m+js.length+1+m,d,k+1+js.length,0,g⟩)∧∃ e0 p,ChainE js e e0∧e0=.mk 2 p (b1 120) zeroTok zeroType []:=by
 intro m
 induction m with
 | zero =>
  intro a d k h1 h2 h3 h4 h5 ha hd hk
  rw [Nat.add_zero] at h3 h5
  rw [Nat.add_zero] at h5
  refine un_signs (b:=a+js.length+1) (c:=1) js a d k (fun i j hi=>⟨h2 i j hi,hx5 j (List.mem_of_getElem? hi)⟩) (by omega) (by omega) (by omega) ⟨_,un_var h3 h5 (by omega) (by omega) (by omega),_,rfl⟩
 | succ m ih =>
  intro a d k h1 h2 h3 h4 h5 ha hd hk
  have hb:keyT (T (a+1+m+js.length+1+m))=(4,b1 41):=by
   have:=h4 m (by omega)
   rw [show a+(m+1)+js.length+1+m=a+1+m+js.length+1+m by omega] at this
   exact this
  obtain ⟨e,g1,g2⟩:=ih (a+1) (d+2) k (fun i hi=>by
   have:=h1 (i+1) (by omega)
   rw [show a+1+i=a+(i+1) by omega];exact this) (fun i j hi=>by
   have:=h2 i j hi
   rw [show a+1+m+i=a+(m+1)+i by omega];exact this) (by
   rw [show a+1+m+js.length=a+(m+1)+js.length by omega];exact h3) (fun i hi=>by
   have:=h4 i (by omega)
   rw [show a+1+m+js.length+1+i=a+(m+1)+js.length+1+i by omega];exact this) (.inl hb) (by omega) (by omega) (by omega)
  have hn:(T (a+1)).kind≠2:=by
   cases m with
   | succ m=>rw [kind_key (h1 1 (by omega))];decide
   | zero =>
    cases js with
    | cons j js=>have:=h2 0 j rfl;rw [show a+(0+1)+0=a+1 by omega] at this;rw [kind_key this];exact (by decide:(4:Nat)≠2)
    | nil=>have:=h3;simp only [List.length_nil] at this;rw [show a+(0+1)+0=a+1 by omega] at this;rw [kind_key this];decide
  refine ⟨e,?_,g2⟩
  have hq:StopK (keyT (T (a+1+m+js.length+1+m+1))):=by
   rw [show a+1+m+js.length+1+m+1=a+(m+1)+js.length+1+(m+1) by omega];exact h5
  have:=un_paren (n:=n+1+js.length+6 * m) (a:=a) (d:=d) (k:=k) (g:=g) (h1 0 (by omega)) hn hb hq (by omega) (by omega) (by omega) (by
   rw [show n+1+js.length+6 * m+1=n+2+js.length+6 * m by omega];exact g1)
  rw [show n+2+js.length+6 * (m+1)=n+1+js.length+6 * m+7 by omega,show a+(m+1)+js.length+1+(m+1)=a+1+m+js.length+1+m+1 by omega]
  exact this
end
theorem nk_op {m:Nat} {js:List Nat} {i:Nat} (h:i < m):(nestK m js)[6+i]?=some (4,b1 40):=by
 unfold nestK
 rw [List.getElem?_append_right (by simp),List.getElem?_append_left (by simp;omega),List.getElem?_replicate,if_pos (by simp;omega)]
theorem nk_sg {m:Nat} {js:List Nat} {i j:Nat} (h:js[i]?=some j):(nestK m js)[6+m+i]?=some (4,b1 (sgC5 j)):=by
 have hl:=(List.getElem?_eq_some_iff.1 h).1
 unfold nestK
 rw [List.getElem?_append_right (by simp;omega),List.getElem?_append_right (by simp;omega),List.getElem?_append_left (by simp;omega)]
 simp only [List.length_cons,List.length_nil,List.length_replicate]
 rw [show 6+m+i - (0+1+1+1+1+1+1) - m=i by omega,List.getElem?_map,h];rfl
theorem nk_tail {m:Nat} {js:List Nat} {i:Nat}:(nestK m js)[6+m+js.length+i]?=((1,b1 120)::(List.replicate m (4,b1 41)++[(4,b1 59),(4,b1 125),(0,⟨#[]⟩)]))[i]?:=by
 unfold nestK
 rw [List.getElem?_append_right (by simp;omega),List.getElem?_append_right (by simp;omega),List.getElem?_append_right (by simp;omega)]
 simp only [List.length_cons,List.length_nil,List.length_replicate,List.length_map]
 rw [show 6+m+js.length+i - (0+1+1+1+1+1+1) - m - js.length=i by omega]
theorem nk_cl {m:Nat} {js:List Nat} {i:Nat} (h:i < m):(nestK m js)[6+m+js.length+1+i]?=some (4,b1 41):=by
 rw [show 6+m+js.length+1+i=6+m+js.length+(i+1) by omega,nk_tail,List.getElem?_cons_succ,List.getElem?_append_left (by simp;omega),List.getElem?_replicate,if_pos h]
theorem nk_end {m:Nat} {js:List Nat} {i:Nat}:(nestK m js)[6+m+js.length+1+m+i]?=([(4,b1 59),(4,b1 125),(0,⟨#[]⟩)]:List Key)[i]?:=by
 rw [show 6+m+js.length+1+m+i=6+m+js.length+(m+i+1) by omega,nk_tail,List.getElem?_cons_succ,List.getElem?_append_right (by simp),List.length_replicate,show m+i - m=i by omega]
section
variable {T:Nat→TokS}
theorem nest_full {n m:Nat} {js:List Nat} (hT:∀ i q,(nestK m js)[i]?=some q→keyT (T i)=q) (hm:m≤15) (hl:js.length≤12) (hj:∀ j∈js,j < 5) :
 ∃ e k',parseE T (n+2+js.length+6 * m+3) .full ⟨6,2,2,0,0⟩=some (e,⟨6+m+js.length+1+m,2,k',0,0⟩)∧∃ e0 p,ChainE js e e0∧e0=.mk 2 p (b1 120) zeroTok zeroType []:=by
 have hq:StopK (keyT (T (6+m+js.length+1+m))):=by
  have:=hT (6+m+js.length+1+m+0) _ nk_end
  exact .inr this
 obtain ⟨e,g1,g2⟩:=nest_un (T:=T) (g:=0) (n:=n) hj m 6 3 2 (fun i hi=>hT _ _ (nk_op hi)) (fun i j hi=>hT _ _ (nk_sg hi)) (by have:=hT (6+m+js.length+0) _ nk_tail;exact this) (fun i hi=>hT _ _ (nk_cl hi)) hq (by omega) (by omega) (by omega)
 refine ⟨e,2+1+js.length,?_,g2⟩
 have:=full_stop (n:=n+1+js.length+6 * m) (d:=2) hq (by omega) (by rw [show n+1+js.length+6 * m+1=n+2+js.length+6 * m by omega];exact g1)
 rw [show n+2+js.length+6 * m+3=n+1+js.length+6 * m+4 by omega]
 exact this
theorem nest_ret {N m b k' p:Nat} {js:List Nat} {e:ExprS} (hT:∀ i q,(nestK m js)[i]?=some q→keyT (T i)=q) (hb:b=6+m+js.length+1+m) (hbl:b < 1000) (h:parseE T N .full ⟨6,2,2,0,0⟩=some (e,⟨b,2,k',0,0⟩)) :
 retS T N p ⟨5,2,2,0,0⟩=some (.mk 11 p zeroDecl (some e) [],⟨b+1,2,k',0,0⟩):=by
 have h5:keyT (T 5)=(2,bReturn):=hT 5 _ rfl
 have h6:wordy (T 6) (b1 59)=false:=by
  cases m with
  | succ m=>rw [wordy_key (hT (6+0) _ (nk_op (by omega)))];decide
  | zero =>
   cases js with
   | cons j js =>
    rw [wordy_key (hT (6+0+0) _ (nk_sg (j:=j) rfl))]
    unfold wordyK
    have:eqB (b1 (sgC5 j)) (b1 59)=false:=by
     cases hq:eqB (b1 (sgC5 j)) (b1 59) with
     | false=>rfl
     | true =>
      have h1:=eqB_iff.1 hq
      have h2:sgC5 j=59:=by
       have:=congrArg (fun x:ByteArray=>x.data.toList) h1
       simpa [b1] using this
      have h3:∀ j,sgC5 j≠59:=by
       intro j
       unfold sgC5
       match j with
       | 0=>decide
       | 1=>decide
       | 2=>decide
       | 3=>decide
       | 4=>decide
       | n+5=>rw [show sg5.getD (n+5) 45=45 from rfl];decide
      exact absurd h2 (h3 j)
    dsimp only
    rw [this];rfl
   | nil=>rw [wordy_key (hT (6+0+0+0) _ (nk_tail (js:=[])))];decide
 have hw:wordy (T b) (b1 59)=true:=by
  have:keyT (T (6+m+js.length+1+m))=(4,b1 59):=hT (6+m+js.length+1+m+0) _ nk_end
  rw [hb,wordy_key this];decide
 unfold retS
 have hno:(noWords.any fun w=>PS.is T ⟨5,2,2,0,0⟩ w)=false:=by
  have:(fun w=>PS.is T ⟨5,2,2,0,0⟩ w)=fun w=>wordyK (2,bReturn) w:=funext fun w=>wordy_key h5 w
  rw [this];decide
 rw [hno,if_neg (by decide),take_yes (by rw [wordy_key h5];decide) (by omega)]
 simp only [Option.bind_eq_bind,Option.bind_some]
 rw [if_neg (by
  rintro (h|h)
  ·cases h
  ·have h:wordy (T 6) (b1 59)=true:=h
   rw [h6] at h;cases h),h]
 simp only [Option.bind_some]
 rw [want_yes hw (by omega)]
 rfl
theorem nest_inner {N m b k':Nat} {js:List Nat} {e:ExprS} (hT:∀ i q,(nestK m js)[i]?=some q→keyT (T i)=q) (hb:b=6+m+js.length+1+m) (hbl:b < 1000) (h:parseE T N .full ⟨6,2,2,0,0⟩=some (e,⟨b,2,k',0,0⟩)) :
 parseS T (N+1) ⟨5,1,1,0,0⟩=some (.mk 11 (T 5).pos zeroDecl (some e) [],⟨b+1,1,k',0,0⟩):=by
 have h5:keyT (T 5)=(2,bReturn):=hT 5 _ rfl
 rw [parseS,node_ok (by omega)]
 simp only [Option.bind_eq_bind,Option.bind_some]
 rw [down_ok (by omega)]
 simp only [Option.bind_some,ne_eq,not_true_eq_false,if_false]
 rw [if_neg (by
  intro h
  have h:wordy (T 5) (b1 59)=true:=h
  rw [wordy_key h5] at h;exact absurd h (by decide)),take_noK (by rw [wordy_key h5];decide)]
 simp only [Option.bind_some,if_true]
 rw [show PS.tok T ⟨5,1,1,0,0⟩=T 5 from rfl,nest_ret hT hb hbl h]
 rfl
theorem nest_block {N m b k':Nat} {js:List Nat} {e:ExprS} (hT:∀ i q,(nestK m js)[i]?=some q→keyT (T i)=q) (hb:b=6+m+js.length+1+m) (hbl:b < 1000) (h:parseE T N .full ⟨6,2,2,0,0⟩=some (e,⟨b,2,k',0,0⟩)) :
 parseS T (N+2) ⟨4,0,0,0,0⟩=some (.mk 3 (T 4).pos zeroDecl none [.mk 11 (T 5).pos zeroDecl (some e) []],⟨b+2,0,k',0,0⟩):=by
 have h4:keyT (T 4)=(4,b1 123):=hT 4 _ rfl
 have h5:keyT (T 5)=(2,bReturn):=hT 5 _ rfl
 have hb1:keyT (T (b+1))=(4,b1 125):=by rw [hb];exact hT (6+m+js.length+1+m+1) _ nk_end
 rw [parseS,node_ok (by omega)]
 simp only [Option.bind_eq_bind,Option.bind_some]
 rw [down_ok (by omega)]
 simp only [Option.bind_some,ne_eq,not_true_eq_false,if_false]
 rw [if_neg (by
  intro h
  have h:wordy (T 4) (b1 59)=true:=h
  rw [wordy_key h4] at h;exact absurd h (by decide)),take_yes (by rw [wordy_key h4];decide) (by omega)]
 simp only [Option.bind_some,Bool.true_eq_false,if_false]
 rw [take_noK (by rw [wordy_key h5];decide)]
 simp only [Option.bind_some,Bool.false_eq_true,if_false]
 rw [nest_inner hT hb hbl h]
 simp only [Option.bind_some,not_true_eq_false,if_false]
 rw [take_yes (by rw [wordy_key hb1];decide) (by omega)]
 simp only [Option.bind_some,if_true]
 rfl
theorem nest_outer {N m b k':Nat} {js:List Nat} {e:ExprS} (hT:∀ i q,(nestK m js)[i]?=some q→keyT (T i)=q) (hb:b=6+m+js.length+1+m) (hbl:b < 1000) (h:parseE T N .full ⟨6,2,2,0,0⟩=some (e,⟨b,2,k',0,0⟩)) :
 ∃ rt nm po ps k1 p1 d1 e1 p2 d2 ks,outerS T (N+2) ⟨[],[]⟩ startP=some (⟨[],[⟨rt,nm,po,ps,.mk k1 p1 d1 e1 [.mk 11 p2 d2 (some e) ks]⟩]⟩,⟨b+2,0,k',0,0⟩):=by
 have h0:keyT (T 0)=(2,bInt):=hT 0 _ rfl
 have h1:keyT (T 1)=(1,b1 102):=hT 1 _ rfl
 have h2:keyT (T 2)=(4,b1 40):=hT 2 _ rfl
 have h3:keyT (T 3)=(4,b1 41):=hT 3 _ rfl
 have h4:keyT (T 4)=(4,b1 123):=hT 4 _ rfl
 have no0:∀ {s},wordyK (2,bInt) s=false→PS.take T ⟨0,0,0,0,0⟩ s=some (false,⟨0,0,0,0,0⟩):=fun hs=>take_noK (by rw [wordy_key h0];exact hs)
 have hsp:specS T ⟨0,0,0,0,0⟩=some (⟨false,bInt,false,⟨#[]⟩,(T 0).pos⟩,⟨1,0,0,0,0⟩):=by
  unfold specS
  rw [no0 (by decide)]
  simp only [Option.bind_eq_bind,Option.bind_some]
  unfold specPub
  simp only [Bool.false_eq_true,if_false]
  rw [no0 (by decide)]
  simp only [Option.map_some,Option.bind_some]
  rw [no0 (by decide)]
  simp only [Option.bind_some,Bool.false_eq_true,if_false]
  rw [no0 (by decide)]
  simp only [Option.bind_some,Bool.false_eq_true,if_false]
  rw [no0 (by decide)]
  simp only [Option.bind_some]
  unfold specSig
  simp only [Bool.false_eq_true,if_false]
  rw [no0 (by decide)]
  simp only [Option.bind_some]
  rw [specW,no0 (by decide)]
  simp only [Option.bind_eq_bind,Option.bind_some,Bool.false_eq_true,if_false]
  rw [specW,no0 (by decide)]
  simp only [Option.bind_eq_bind,Option.bind_some,Bool.false_eq_true,if_false]
  rw [specW,take_yes (by rw [wordy_key h0];decide) (by omega)]
  rfl
 have hre:restS T (N+2) ⟨false,bInt,false,⟨#[]⟩,(T 0).pos⟩ ⟨1,0,0,0,0⟩=some (⟨⟨⟨false,bInt,false,⟨#[]⟩,(T 0).pos⟩,0,[]⟩,(T 1).text,(T 1).pos⟩,⟨2,0,0,0,0⟩):=by
  unfold restS
  rw [starsS,take_noK (by rw [wordy_key h1];decide)]
  simp only [Option.bind_eq_bind,Option.bind_some,Bool.false_eq_true,if_false]
  rw [take_noK (by rw [wordy_key h1];decide)]
  simp only [Option.bind_some,Bool.false_eq_true,if_false]
  unfold PS.name
  rw [if_pos ⟨rfl,kind_key h1⟩,adv_ok (by omega)]
  simp only [Option.map_some,Option.bind_some]
  unfold dimsS
  rw [take_noK (by rw [wordy_key h2];decide)]
  rfl
 have ht:typedT (T 0)=true:=by
  unfold typedT
  rw [kind_key h0,text_key h0];decide
 unfold outerS
 rw [show PS.tok T startP=T 0 from rfl,if_neg (by rw [ht];decide),if_neg (by
  intro h
  have h:wordy (T 0) bStruct=true:=h
  rw [wordy_key h0] at h;exact absurd h (by decide))]
 rw [show startP=⟨0,0,0,0,0⟩ from rfl,hsp]
 simp only [Option.bind_eq_bind,Option.bind_some,hre]
 rw [if_pos (⟨by first|rfl|trivial,show wordy (T 2) (b1 40)=true by rw [wordy_key h2];decide⟩)]
 unfold functionS
 rw [want_yes (by rw [wordy_key h2];decide) (by omega)]
 simp only [Option.bind_eq_bind,Option.bind_some]
 rw [take_yes (by rw [wordy_key h3];decide) (by omega)]
 simp only [Option.bind_some]
 unfold parsS
 simp only [if_true,Option.bind_some]
 rw [if_pos (show PS.is T ⟨2+1+1,0,0,0,0⟩ (b1 123)=true by show wordy (T 4) (b1 123)=true;rw [wordy_key h4];decide),show (⟨2+1+1,0,0,0,0⟩:PS)=⟨4,0,0,0,0⟩ from rfl,nest_block hT hb hbl h]
 exact ⟨_,_,_,_,_,_,_,_,_,_,_,rfl⟩
end
theorem nest_law {m:Nat} {js:List Nat} (hm:m≤15) (hl:js.length≤12) (hj:∀ j∈js,j < 5):∃ gs rt nm po ps k1 p1 d1 e1 p2 d2 e ks,parseT (nestL m js)=some (.ok ⟨gs,[⟨rt,nm,po,ps,.mk k1 p1 d1 e1 [.mk 11 p2 d2 (some e) ks]⟩]⟩)∧∃ e0 p,ChainE js e e0∧e0=.mk 2 p (b1 120) zeroTok zeroType []:=by
 obtain ⟨L,hs,hk⟩:=nest_scan hm hl hj
 have hT:∀ i q,(nestK m js)[i]?=some q→keyT (tokN L i)=q:=fun i q h=>tok_key hk h
 have hlen:L.length=6+m+js.length+1+m+3:=by
  have:=congrArg List.length hk
  unfold keyL nestK at this
  simp at this;omega
 obtain ⟨e,k',h1,h2⟩:=nest_full (n:=1000 - 2 - 2 - js.length - 6 * m - 3) hT hm hl hj
 rw [show 1000 - 2 - 2 - js.length - 6 * m - 3+2+js.length+6 * m+3=998 by omega] at h1
 obtain ⟨rt,nm,po,ps,q1,p1,d1,e1,p2,d2,ks,ho⟩:=nest_outer hT rfl (by omega) h1
 refine ⟨[],rt,nm,po,ps,q1,p1,d1,e1,p2,d2,e,ks,?_,h2⟩
 unfold parseT
 rw [hs,Option.bind_some,parseL_eq (by omega)]
 unfold parseU
 have he:keyT (tokN L (6+m+js.length+1+m+2))=(0,⟨#[]⟩):=hT _ _ nk_end
 rw [outersS,if_neg (by
  rintro (h|h)
  ·exact h rfl
  ·have h:(tokN L 0).kind=0:=h
   rw [kind_key (hT 0 _ rfl)] at h;exact absurd h (by decide))]
 simp only [Option.bind_eq_bind,ho,Option.bind_some]
 rw [outersS,if_pos (.inr (kind_key he))]
 rfl
open Go.AH
attribute [local irreducible] W RS WR
def SgAt (h:Hp) (A:Option Addr) (l:List Int):Prop:=l=[]∨∃ b o cs e,A=some ⟨b,o,none⟩∧h.m b=some ⟨⟨cs⟩,e⟩∧∀ (i:Nat) (v:Int),l[i]?=some v→cs[o+i * 1]?=some (.int .i64 v)
def md5 (k:Int):Nat:=((k.tmod 5+5).tmod 5).toNat
theorem md5_fit (k:Int):md5 k < 5∧(k.tmod 5+5).tmod 5=(md5 k:Int)∧-9223372036854775808≤k.tmod 5+5∧k.tmod 5+5≤9223372036854775807:=by
 obtain ⟨i,hi,he,h1,h2⟩:=mod_fit (n:=k) (m:=5) (by decide) (by decide)
 have he:(k.tmod 5+5).tmod 5=(i:Int):=he
 have e:md5 k=i:=by unfold md5;rw [he];rfl
 rw [e]
 exact ⟨hi,he,h1,h2⟩
theorem sgnL_len (js:List Nat):(sgnL js).length=2 * js.length:=by
 induction js with
 | nil=>rfl
 | cons j js ih=>simp only [sgnL,List.length_append,List.length_cons,List.length_nil,ih];omega
theorem sgnL_app (a b:List Nat):sgnL (a++b)=sgnL a++sgnL b:=by
 induction a with
 | nil=>rfl
 | cons j a ih=>simp only [List.cons_append,sgnL,ih,List.append_assoc]
theorem sgnL_snoc {l:List Int} {i:Nat} {k:Int} (h:l[i]?=some k):sgnL ((l.map md5).take (i+1))=sgnL ((l.map md5).take i)++([sgC5 (md5 k)]++[32]):=by
 rw [List.take_add_one,sgnL_app,List.getElem?_map,h]
 rfl
def sgV:List Value:=sg5.map fun c=>.string ⟨⟨[c]⟩⟩
theorem sg_at {j:Nat} (h:j < 5):sgV[0+j * 1]?=some (.string ⟨⟨[sgC5 j]⟩⟩):=by
 match j,h with
 | 0,_=>rfl
 | 1,_=>rfl
 | 2,_=>rfl
 | 3,_=>rfl
 | 4,_=>rfl
theorem nest_len {m:Nat} {js:List Nat} (hm:m≤15) (hl:js.length≤12):(nestL m js).length≤16384:=by
 simp only [nestL,List.length_append,repL_len,sgnL_len,sNest,List.length_cons,List.length_nil];omega
set_option maxHeartbeats 4000000 in
set_option maxRecDepth 100000 in
theorem nests_tf (n:Int) (l:List Int) (A:Option Addr) (cap:Nat) (h:Hp) (hg:G0 h) (hs:SgAt h A l):TF Tryd.prog 5 ⟨[.int .i64 n,.slice A l.length cap]⟩ h (.bool true) h:=by
 obtain ⟨m,hm15,hm,hmb⟩:∃ m:Nat,m < 15∧(n.tmod 15+15).tmod 15=(m:Int)∧-9223372036854775808≤n.tmod 15+15∧n.tmod 15+15≤9223372036854775807:=mod_fit (m:=15) (by decide) (by decide)
 refine TF.exact (fn:=Tryd.f5) (c:=(Tryd.f5.body.getD .skip)) Tryd.func5 (by kernel_rfl) Tryd.ntmps5 (by kernel_rfl) (fun s0=>⟨Nat.le_refl _,by simp,fun i b hb=>⟨s0.dom i b hb,fun u hu=>s0.bd i b hb u hu⟩⟩) fun π s0=>?_
 conv=>arg 2;whnf
 ((with_reducible apply W.seq);repeat (first|refine Ys ?_|refine Y0 ?_|refine Y1 ?_|refine Ym ?_))
 ((with_reducible apply W.seq);repeat (fail))
 ((with_reducible apply W.seq);repeat (first|((with_reducible apply (RS.callA (g0:=6)));(iterate 3 exact rfl);exact fun B' hB'=>fit_tf B' (hg.up hB'.up))|((with_reducible apply RS.not);iterate 3 exact rfl)|refine Y0 ?_|refine Y1 ?_|refine Y1h ?_|refine Y3 ?_))
 ((with_reducible apply W.seq);repeat (first|((with_reducible apply RS.remV);(iterate 4 exact rfl);first|decide;exact hm|decide;exact rfl)|((with_reducible apply RS.binFit);(iterate 5 exact rfl);exact hmb)|refine Y4 ?_|refine Y0 ?_|refine Y1 ?_|refine Ym ?_))
 by_cases h12:12 < l.length
 ·repeat (first|((with_reducible first|apply RS.move|apply RS.assign|apply RS.lenSl);iterate 3 exact rfl)|refine Y6 ?_|refine Y0 ?_|refine Yy ?_|refine Y1 ?_|refine Y5 ?_)
  exact endsK_ret _ (.cons (.tmp rfl) .nil) fun B' a=>⟨rfl,fun i c hi=>a.up _ _ hi⟩
 ·((with_reducible apply W.seq);repeat (fail))
  ((with_reducible apply W.seq);repeat (first|refine Y32 ?_|refine Y7 ?_|refine Y0 ?_|refine Y1 ?_|refine Y1h ?_|refine Y3 ?_))
  ((with_reducible apply W.seq);repeat (first|refine Ys ?_|refine Y0 ?_|refine Y1 ?_|refine Ym ?_))
  ((with_reducible apply W.seq);repeat (fail))
  ((with_reducible apply W.seq);repeat (first|refine Y32 ?_|refine Y0 ?_|refine Y1 ?_|(with_reducible first|apply W.block|apply thenK_n)))
  have hjs:∀ j∈l.map md5,j < 5:=fun j hj=>by
   obtain ⟨k,_,rfl⟩:=List.mem_map.1 hj
   exact (md5_fit k).1
  have hjl:(l.map md5).length≤12:=by rw [List.length_map];omega
  obtain ⟨gs,rt,nm,po,ps,k1,p1,d1,e1,p2,d2,e,ks,hpt,e0,p0,hch,he0⟩:=nest_law (m:=m) (js:=l.map md5) (by omega) hjl hjs
  have hlen:=nest_len (m:=m) (js:=l.map md5) (by omega) hjl
  have hsd:∀ b c,h.m b=some c→b < h.n:=s0.dom
  refine W.loopN (X:=Nat) (fun i=>[(0,.int .i64 (m:Int)),(1,.slice A l.length cap),(5,.string ⟨⟨sgnL ((l.map md5).take i)⟩⟩),(22,.slice A l.length cap),(23,.int .i64 (l.length:Int)),(24,.int .i64 (i:Int))]) (fun i B=>(∀ b c,h.m b=some c→B.m b=some c)∧i≤l.length) (fun i=>l.length - i)
   (fun B' a=>⟨0,?_,a.up,Nat.zero_le _⟩) ?_
  ·(repeat' (first|exact trivial|exact rfl|apply And.intro));done
  rintro i B π1 sB ⟨hup,hi⟩
  dsimp only
  by_cases hlt:i < l.length
  ·obtain ⟨k,hk⟩:∃ k,l[i]?=some k:=⟨_,List.getElem?_eq_getElem hlt⟩
   rcases hs with rfl|⟨b0,o0,cs0,el0,rfl,hm0,hc0⟩
   ·simp at hlt
   obtain ⟨hj5,hj,hjb⟩:=md5_fit k
   have hck:=hc0 i k hk
   have hm0:=hup _ _ hm0
   have hn0:=sB.dom _ _ hm0
   have hsv:=sg_at hj5
   have hsl:(sgnL ((l.map md5).take i)).length≤24:=by rw [sgnL_len,List.length_take];omega
   generalize hje:md5 k=j at *
   repeat (first|((with_reducible apply RS.indexAddrS);(iterate 5 exact rfl);(first|exact hlt|exact hj5))|((with_reducible apply RS.load1B);(iterate 3 exact rfl);exact hm0;exact hn0;exact hck)|refine Yh ?_|((with_reducible apply RS.remV);(iterate 4 exact rfl);first|decide;exact hj|decide;exact rfl)|((with_reducible apply RS.binFit);(iterate 5 exact rfl);exact hjb)|refine Y39 ?_|((with_reducible apply RS.catL);(iterate 4 exact rfl);(simp only [List.length_append,List.length_cons,List.length_nil];omega))|refine Y4 ?_|refine Y6 ?_|refine Ye ?_|refine Y0 ?_|refine Yx ?_|refine Y1 ?_|refine Y5 ?_)
   refine roundN_n rfl fun B' a=>⟨i+1,⟨rfl,rfl,?_,rfl,rfl,rfl,trivial⟩,⟨fun b c hb=>a.up _ _ (hup b c hb),hlt⟩,by omega⟩
   show some (Value.string ⟨⟨sgnL ((l.map md5).take i)++([sgC5 j]++[32])⟩⟩)=some (Value.string ⟨⟨sgnL ((l.map md5).take (i+1))⟩⟩)
   rw [sgnL_snoc hk,hje]
  ·obtain rfl:i=l.length:=by omega
   have hfull:(l.map md5).take l.length=l.map md5:=List.take_of_length_le (by simp)
   rw [hfull]
   have hsl:(sgnL (l.map md5)).length≤24:=by rw [sgnL_len];omega
   ((with_reducible apply W.seq);repeat (first|refine Y7 ?_|refine Y0 ?_|refine Y1 ?_|refine Ym ?_))
   ((with_reducible apply W.seq);repeat (first|(with_reducible first|apply W.exit|apply thenK_n|apply thenK_e|apply roundN_e)|refine Y3 ?_|refine Yf ?_))
   ((with_reducible apply W.seq);repeat (first|((with_reducible apply (RS.callA (g0:=7)));(iterate 3 exact rfl);exact fun B' hB'=>rep_tf _ _ (by simp only [List.length_cons,List.length_nil];omega) (by omega) B')|((with_reducible apply RS.catL);(iterate 4 exact rfl);(simp only [List.length_append,repL_len,List.length_cons,List.length_nil];omega))|((with_reducible apply (RS.callEx (g0:=8)));(iterate 3 exact rfl);intro B1 hB1;refine ⟨_,parse_ex (l:=nestL m (l.map md5)) hlen hpt (hg.up fun b c hb=>hB1.up _ _ (hup b c hb)),?_⟩;rintro v H1 π2 ⟨⟨ub,gb,gs',fb,fs,rfl,u1⟩,o1⟩ sp1 hle1;have hup:=(fun b c hb=>(o1.2 b (hB1.dom _ _ (hB1.up _ _ (hup b c hb)))).trans (hB1.up _ _ (hup b c hb)):∀ b c,h.m b=some c→H1.m b=some c))|refine Y4 ?_|refine Y2d ?_|refine Y2 ?_|refine Y8 ?_|refine Y0 ?_|refine Y1 ?_|refine Ym ?_))
   refine W.absorbX fun C π3 a3=>?_
   have hF:C.m (π2 0)=some ⟨⟨[.int .i64 0,.int .i64 0]⟩,27⟩:=a3.loc 0 (Nat.le_of_ble_eq_true rfl)
   have uC:=u1.kept fun i c hc _=>a3.up i c hc
   have hdC:=a3.dom
   have hupC:∀ i c,h.m i=some c→C.m i=some c:=fun i c hi=>a3.up i c (hup i c hi)
   have hFn:=hdC _ _ hF
   obtain ⟨gA,gl,gk,k,A',n',c',bb,hum,⟨dd,hnm,hfm⟩,hst⟩:=uC.fun1
   dsimp only at hnm hst
   obtain ⟨D,dd',E,kb,kk,p,hsm,hkm,hs2⟩:=hst.kid1
   obtain ⟨D2,dd2,pe,A2,n2,k2',hpm,hex⟩:=hs2.e1
   have hun:=hdC _ _ hum
   have hfn:=hdC _ _ hfm
   have hsn:=hdC _ _ hsm
   have hkn:=hdC _ _ hkm
   have hpn:=hdC _ _ hpm
   ((with_reducible apply W.seq);repeat (fail))
   ((with_reducible apply W.seq);repeat (first|refine Y1j ?_|((with_reducible apply RS.load1B);(iterate 3 exact rfl);first|exact hF;exact hFn;exact rfl|exact hum;exact hun;exact rfl|exact hfm;exact hfn;exact rfl|exact hsm;exact hsn;exact rfl)|refine Y13 ?_|refine Yd ?_|refine Y7 ?_|refine Yu ?_|refine Y0 ?_|refine Y1 ?_|refine Y1h ?_|refine Y3 ?_))
   ((with_reducible apply W.seq);repeat (first|refine Y1j ?_|((with_reducible apply RS.load1B);(iterate 3 exact rfl);first|exact hum;exact hun;exact rfl|exact hfm;exact hfn;exact rfl|exact hsm;exact hsn;exact rfl|exact hkm;exact hkn;exact rfl|exact hpm;exact hpn;exact rfl)|refine Yc ?_|refine Y0 ?_|refine Y1 ?_|refine Ym ?_))
   ((with_reducible apply W.seq);repeat (fail))
   ((with_reducible apply W.seq);repeat (first|refine Y32 ?_|refine Y0 ?_|refine Y1 ?_|(with_reducible first|apply W.block|apply thenK_n)))
   refine W.loopN (X:=Nat × Nat × ExprS) (fun x=>[(1,.slice A l.length cap),(10,ptrC x.2.1),(93,.slice A l.length cap),(94,.int .i64 (l.length:Int)),(95,.int .i64 (x.1:Int))]) (fun x B=>(∀ b c,h.m b=some c→B.m b=some c)∧x.1≤l.length∧ExprAt B 0 x.2.1 x.2.2∧ChainE ((l.map md5).drop x.1) x.2.2 e0) (fun x=>l.length - x.1)
    (fun B' a=>⟨(0,pe,e),?_,fun b c hb=>a.up _ _ (hupC b c hb),Nat.zero_le _,hex.up (fun i _ c hc=>a.up i c hc) (Nat.le_refl _),hch⟩) ?_
   ·(repeat' (first|exact trivial|exact rfl|apply And.intro));done
   rintro ⟨i,pp,e'⟩ B4 π4 sB4 ⟨hup4,hi4,hex4,hch4⟩
   dsimp only at hi4 hex4 hch4 ⊢
   by_cases hlt:i < l.length
   ·obtain ⟨k,hk⟩:∃ k,l[i]?=some k:=⟨_,List.getElem?_eq_getElem hlt⟩
    rcases hs with rfl|⟨b0,o0,cs0,el0,rfl,hm0,hc0⟩
    ·simp at hlt
    obtain ⟨hj5,hj,hjb⟩:=md5_fit k
    have hck:=hc0 i k hk
    have hm0:=hup4 _ _ hm0
    have hn0:=sB4.dom _ _ hm0
    have hsv:=sg_at hj5
    have hdr:(l.map md5).drop i=md5 k::(l.map md5).drop (i+1):=by
     have hl2:i < (l.map md5).length:=by rw [List.length_map];exact hlt
     rw [List.drop_eq_getElem_cons hl2]
     congr 1
     have:(l.map md5)[i]?=some (md5 k):=by rw [List.getElem?_map,hk];rfl
     rw [List.getElem?_eq_getElem hl2] at this
     injection this
    rw [hdr] at hch4
    obtain ⟨pos7,e2,rfl,hch5⟩:=hch4
    obtain ⟨D3,d3,kb3,c3,q,hem,hekm,hex5⟩:=hex4.kid1
    have hen:=sB4.dom _ _ hem
    have hekn:=sB4.dom _ _ hekm
    generalize hje:md5 k=j at *
    repeat (first|((with_reducible apply RS.eqPtrNil);iterate 4 exact rfl)|refine Y1j ?_|((with_reducible apply RS.indexAddrS);(iterate 5 exact rfl);(first|exact hlt|exact hj5))|((with_reducible apply RS.load1B);(iterate 3 exact rfl);first|exact hm0;exact hn0;exact hck|exact hem;exact hen;exact rfl|exact hekm;exact hekn;exact rfl)|refine Yh ?_|((with_reducible apply RS.moveF);iterate 3 exact rfl)|((with_reducible apply RS.remV);(iterate 4 exact rfl);first|decide;exact hj|decide;exact rfl)|((with_reducible apply RS.binFit);(iterate 5 exact rfl);exact hjb)|refine Y39 ?_|((with_reducible apply RS.neqSame);iterate 5 exact rfl)|((with_reducible apply (RS.nilP mixed [(13,14),(12,14),(11,14),(10,14),(14,15),(13,15),(12,15),(11,15),(10,15),(14,16),(13,16),(12,16),(11,16),(10,16),(14,17),(13,17),(12,17),(11,17),(10,17),(14,18),(13,18),(12,18),(11,18),(10,18),(13,19),(12,19),(11,19),(10,19),(13,20),(12,20),(11,20),(10,20)]));kernel_rfl;(repeat (refine ⟨fun x y hx hy=>(by obtain rfl:=Option.some.inj hx;obtain rfl:=Option.some.inj hy;(first|exact pairR_pre rfl rfl rfl rfl rfl rfl rfl (Nat.zero_le _)|exact pairR_calm rfl rfl rfl rfl rfl rfl rfl (Nat.le_refl _) (fun j hj=>by simp [recN] at hj) (.inr ⟨rfl,rfl⟩))),?_⟩));exact trivial;exact rfl)|refine Y2v ?_|refine Yd ?_|refine Y6 ?_|refine Y7 ?_|refine Ye ?_|refine Y0 ?_|refine Yx ?_|refine Y1 ?_|refine Y5 ?_|refine Y3 ?_)
    refine roundN_n rfl fun B' a=>⟨(i+1,q,e2),?_,⟨fun b c hb=>a.up _ _ (hup4 b c hb),hlt,hex5.up (fun i _ c hc=>a.up i c hc) (Nat.le_refl _),hch5⟩,by dsimp only;omega⟩
    (repeat' (first|exact trivial|exact rfl|apply And.intro));done
   ·obtain rfl:i=l.length:=by omega
    rw [List.drop_of_length_le (by simp)] at hch4
    have hch4:e'=e0:=hch4
    rw [hch4,he0] at hex4
    obtain ⟨D3,d3,A3,c3,ps3,hem,_⟩:=hex4.top
    have hen:=sB4.dom _ _ hem
    repeat (first|((with_reducible apply RS.nePtr);iterate 4 exact rfl)|((with_reducible apply RS.load1B);(iterate 3 exact rfl);exact hem;exact hen;exact rfl)|refine Yc ?_|refine Yb ?_|refine Y6 ?_|refine Y7 ?_|refine Y20 ?_|refine Y0 ?_|refine Y1b ?_|refine Y1 ?_|refine Y3 ?_|refine Yf ?_)
    exact endsK_ret _ (.cons (.tmp rfl) .nil) fun B' a=>⟨rfl,fun i c hi=>a.up _ _ (hup4 i c hi)⟩
end Go.Proofs.YtbmmchaaiakanaaDoor
namespace Go.Proofs.YtbmmchaaiakanaaDoor
open Go.AH Go.ChangeShapes Go.WideShapes Go.ChangeAt Go.RowKit
variable {H:Type} {enc:TypeId × Value→H} {W:World} {G:Nat} {g0:Nat→Option Blk}
theorem trodAll_below {P:Program} (hl:laidOutB P=true) {W W':World} (hb:Below W.heap.size W W'):∀ {ts:List TypeId} {vs:List Value} {ds:List (DataW H)} {ps:List MemPlace},(∀ t∈ts,P.readableRec t=true∧t < P.types.size)→(∀ x∈ps,x.block < W.heap.size)→DataW.TrodAll enc P W 0 (fun _=>true) true ts vs ds ps→DataW.TrodAll enc P W' 0 (fun b=>decide (b < W.heap.size)) true ts vs ds ps:=by
 intro ts
 induction ts with
 | nil =>
  intro vs ds ps _ _ h
  cases vs with
  | nil=>cases ds with
   | nil=>exact h
   | cons d ds=>exact h.elim
  | cons v vs=>exact h.elim
 | cons t ts ih =>
  intro vs ds ps ht hx h
  cases vs with
  | nil=>exact h.elim
  | cons v vs =>
   cases ds with
   | nil=>exact h.elim
   | cons d ds =>
    obtain ⟨p,q,h1,h2,rfl⟩:=h
    exact ⟨p,q,Below.trod hl (ht t (by simp)).1 (ht t (by simp)).2 h1 hb fun x hx'=>hx x (by simp [hx']),ih (fun t ht'=>ht t (by simp [ht'])) (fun x hx'=>hx x (by simp [hx'])) h2,rfl⟩
theorem Tryd.own:ownKnob Tryd.prog.godebug=none:=by kernel_rfl
theorem Tryd.laidOut:laidOutB Tryd.prog=true:=by kernel_rfl
theorem TW.of {P:Program} {W:World} {t:TypeId} {v:Value} {d:DataW H} {p:List MemPlace} (h:DataW.Trod enc P W 0 (fun _=>true) true t v d p) (hw:okW (d.weights P t)):TW enc P W t v.cells.toList:=by
 obtain ⟨fuel,h⟩:=h
 exact ⟨fuel,(d,p),h,hw⟩
theorem shutB {P:Program} {W:World} {base:Nat} {sp:Nat→Bool} {held:Bool} {t:TypeId} {b:Bool} (ht:P.underlying t=some .bool):DataW.Trod enc P W base sp held t (.bool b) (.lit (.bool b)) []:=⟨1,by simp [DataW.trod,Value.cells,ht]⟩
end Go.Proofs.YtbmmchaaiakanaaDoor
namespace Go.Proofs.YtbmmchaaiakanaaDoor
open Go Go.AH Go.RowKit
def pLaid : List (String × DataW Unit) := [("unicode.White_Space", Rows.laid_unicode_White_Space), ("strings.asciiSpace", Rows.laid_strings_asciiSpace)]
theorem gSpace : Tryd.prog.globalNamed "strings.asciiSpace" = some 0 := by kernel_rfl
theorem tSpace:(Tryd.prog.globals[0]?).map (·.type)=some 103:=by kernel_rfl
theorem laid_space:(Rows.laid_strings_asciiSpace:DataW Unit)=Lib.tabData .u8 Lib.asciiSpaceTab:=by kernel_rfl
theorem cellsSpace:Tryd.prog.cellsOf 103=256:=by kernel_rfl
theorem cellsU8:Tryd.prog.cellsOf 5=1:=by kernel_rfl
theorem tab_space:Lib.asciiSpaceTab.map (Value.int .u8)=spaceV:=by kernel_rfl
theorem rowSpace:∃ z,((begin Tryd.prog (fun _ _=>0) default).world.heap[0]?).bind Obj.row?=some (z,103):=by
 have h:(((begin Tryd.prog (fun _ _=>0) default).world.heap[0]?).bind Obj.row?).map Prod.snd=some 103:=by kernel_rfl
 obtain ⟨⟨z,t⟩,h1,h2⟩:=Option.map_eq_some_iff.1 h
 simp only at h2
 subst h2
 exact ⟨z,h1⟩
theorem rowMax:((begin Tryd.prog (fun _ _=>0) default).world.heap[1]?).bind Obj.row?=some (#[.int .i64 0],3):=by kernel_rfl
theorem gsizeP:Tryd.prog.globals.size=4:=by kernel_rfl
set_option maxRecDepth 100000 in
theorem p_tab {W : World} (h : laidMetH Tryd.prog pLaid W) : W.var? Tryd.prog "strings.asciiSpace" = some spaceV.toArray := by
 rw [MakeChecks.laidMetH_plain _ _ _ (by kernel_rfl)] at h
 obtain ⟨ps,⟨_,_,_,_,_,_,_,_,_,_,⟨g2,t2,c2,f2,p2,q2,hg2,ht2,hv2,hd2,_,_⟩,_⟩,_⟩:=h
 obtain rfl:=Option.some.inj (gSpace.symm.trans hg2)
 obtain rfl:=Option.some.inj (tSpace.symm.trans ht2)
 rw [laid_space] at hd2
 have e2:=Lib.cells_of_tab Tryd.underlying103 Tryd.underlying5 cellsU8 cellsSpace hd2
 rw [hv2,← tab_space,← e2]
theorem p_start {W:World} (hsh:W.ShapedOpen Tryd.prog) (hL:laidMetH Tryd.prog pLaid W):∃ g0:Nat→Option Blk,(∀ i b,i < Tryd.prog.globals.size→g0 i=some b→(∃ (tail:Array Value) (fr:Nat × Nat),W.heap[i]?=some (.cells (b.cells++tail) b.elem fr))∧∀ v∈b.cells,bnd 0 v)∧∀ ws,G0 (hpW Tryd.prog.globals.size g0 ws):=by
 obtain ⟨z0,h0⟩:=rowSpace
 obtain ⟨c0,hh0,_,_⟩:=hsh.1 _ z0 _ (by rw [gsizeP];decide) h0
 obtain ⟨ds,hd,hds,_⟩:=hsh.1 _ _ _ (by rw [gsizeP];decide) rowMax
 obtain ⟨m,hm⟩:=cell_of_shapedOpen_int hsh (by rw [gsizeP];decide) rowMax rfl (by kernel_rfl) (by kernel_rfl) Tryd.underlying3
 have hn:=p_tab hL
 have e0:c0=spaceV.toArray:=by
  unfold World.var? at hn
  rw [gSpace] at hn
  simpa only [Option.bind_some,hh0,Option.some.injEq] using hn
 have hdv:ds=⟨[.int .i64 m]⟩:=by
  have h1:ds.size=1:=hds
  obtain ⟨l⟩:=ds
  match l,h1 with
  | [v],_ =>
   simp only [World.cell?,hd] at hm
   simp at hm
   rw [hm]
 refine ⟨fun i=>if i=0 then some ⟨⟨spaceV⟩,103⟩ else if i=1 then some ⟨⟨[.int .i64 m]⟩,3⟩ else none,fun i b hi hb=>?_,fun ws=>⟨⟨m,?_⟩,?_⟩⟩
 ·dsimp only at hb
  by_cases q0:i=0
  ·rw [if_pos q0] at hb
   injection hb with hb
   subst hb
   refine ⟨⟨#[],_,by rw [q0,hh0,e0,Array.append_empty]⟩,fun v hv=>?_⟩
   have hv:v∈spaceV:=by simpa using hv
   obtain ⟨s,_,rfl⟩:=List.mem_map.1 hv
   simp
  ·rw [if_neg q0] at hb
   by_cases q1:i=1
   ·rw [if_pos q1] at hb
    injection hb with hb
    subst hb
    refine ⟨⟨#[],_,by rw [q1,hd,hdv,Array.append_empty]⟩,fun v hv=>?_⟩
    have hv:v=.int .i64 m:=by simpa using hv
    rw [hv];simp
   ·rw [if_neg q1] at hb;cases hb
 ·simp [hpW,gsizeP]
 ·simp [hpW,gsizeP]
theorem p_door (os:Os) (args:Array Value):laidMetH Tryd.prog pLaid ((World.doorLaid Tryd.prog 4000 os).forCall (fun _ _=>0) ⟨#[],args,[]⟩).memory :=
 laidMetH_of_parts3 (fuel:=8) (laidMet_of_run' 8 (by kernel_rfl) (by kernel_rfl)) (by kernel_rfl) (by kernel_rfl)
end Go.Proofs.YtbmmchaaiakanaaDoor
namespace Go.Proofs.YtbmmchaaiakanaaDoor
open Go Go.AH Go.ChangeShapes Go.WideShapes Go.ChangeAt Go.RowKit
theorem okWide_cells {P:Program} {W:World} {r:Go.Reach} {base:Nat} {t e:TypeId} {v:Value} (ht:P.underlying t=some (.slice e)) (h:Value.okWide P W r base t v):v.cells.toList=[v]:=by
 simp only [Value.okWide,ht,Cell.okWide] at h
 cases v with
 | agg cs=>simp [Cell.ok,ht] at h
 | _=>rfl
def intΦ (_:Hp) (acs:List Value):Prop:=∃ n,acs=[.int .i64 n]∧IntKind.i64.min≤n∧n≤IntKind.i64.max
theorem up_int:UpΦ intΦ:=fun _ _ _ _ h=>h
theorem row_sg {H:Hp} {acs:List Value} {M:Nat} (h:RowΦ 1 M intΦ H acs):∃ A c l,acs=[.slice A (l:List Int).length c]∧SgAt H A l:=by
 obtain ⟨A,c,accs,rfl,r,_⟩:=h
 have key:∀ accs:List (List Value),(∀ a∈accs,intΦ H a∧a.length=1)→∃ l:List Int,accs=l.map fun n=>[Value.int .i64 n]:=by
  intro accs
  induction accs with
  | nil=>intro _;exact ⟨[],rfl⟩
  | cons a accs ih =>
   intro ha
   obtain ⟨n,hn,_⟩:=(ha a (by simp)).1
   obtain ⟨l,hl⟩:=ih fun b hb=>ha b (by simp [hb])
   exact ⟨n::l,by rw [hn,hl];rfl⟩
 obtain ⟨l,rfl⟩:=key accs r.all
 refine ⟨A,c,l,by rw [List.length_map],?_⟩
 cases l with
 | nil=>exact .inl rfl
 | cons x l =>
  obtain ⟨b,e,hA,hb⟩:=r.at_ (by simp)
  refine .inr ⟨b,0,_,e,hA,hb,fun i v hv=>?_⟩
  have:((x::l).map fun n=>[Value.int .i64 n]).flatten=(x::l).map fun n=>Value.int .i64 n:=by
   generalize x::l=m
   induction m with
   | nil=>rfl
   | cons a m ih=>simp only [List.map_cons,List.flatten_cons,ih];rfl
  rw [this,Nat.zero_add,Nat.mul_one,List.getElem?_map,hv];rfl
set_option maxRecDepth 100000 in
theorem parseNests_lifted (os:Os) (started:os.Started) (H:Type) (enc:TypeId × Value→H) :
 ReturnsInHanded {} Tryd.checked os 5 .any (fun w args=>(Rows.parseNestsSpec.pre enc Tryd.prog Tryd.f5 [] false w args∧laidMetH Tryd.prog pLaid w)∧sizedMet enc Tryd.prog Tryd.f5 (OpenSpec.ofChange Rows.parseNestsSpec) false w args)
  (Rows.parseNestsSpec.post enc Tryd.prog Tryd.f5 false true false false):=by
 refine handed_and_shaped (C:=Tryd.checked) (X:=fun w _=>laidMetH Tryd.prog pLaid w) (fun _ _ _ hh h=>h.of_heap hh) Tryd.own started (by kernel_rfl) Tryd.func5
  (ChangeSpec.witness_shaped (enc:=enc) (C:=Tryd.checked) (os:=os) (X:=fun w _=>laidMetH Tryd.prog pLaid w) false (World.doorLaid Tryd.prog 4000 os) #[.int .i64 0,.slice none 0 0] 8 rfl (World.shaped_of_RefB (by kernel_rfl) (by kernel_rfl)) (by kernel_rfl) (by kernel_rfl) (by kernel_rfl) (p_door os _)) ?_
 intro W base args ds gs before hval0 hW _ hwt0 hL hsh _
 have hval:∀ (j:Nat) t v,Tryd.f5.params[j]?=some t→args[j]?=some v→Value.okWide Tryd.prog W .any base t v:=hval0
 have hwt:(DataW.weightsEach Tryd.prog (Tryd.f5.params.toList++Rows.parseNestsSpec.plain.varTypes Tryd.prog) (ds++gs)).all (·≤reachBytes)=true:=hwt0
 have hW':DataW.Whole enc Tryd.prog Tryd.f5.params.toList Rows.parseNestsSpec.vars false W args.toList ds gs before:=hW
 obtain ⟨p,q,hA0,hV,hbe,hfz,hnd⟩:=hW
 have hA:DataW.TrodAll enc Tryd.prog W 0 (fun _=>true) true Tryd.f5.params.toList args.toList ds p:=hA0
 have hpar:Tryd.f5.params=#[3,32]:=by kernel_rfl
 have hA1:=hA
 rw [hpar] at hA1 hval hwt
 obtain ⟨v0,v1,d0,d1,p0,p1,rfl,rfl,rfl,h0,h1⟩:=trodAll_two hA1
 obtain ⟨rfl,rfl⟩:=trodVars_none hV
 have hw3:(DataW.weightsEach Tryd.prog [3,32] [d0,d1]).all (fun x=>decide (x≤reachBytes))=true:=hwt
 simp only [DataW.weightsEach,List.all_append,Bool.and_eq_true] at hw3
 have hk1:okW (d1.weights Tryd.prog 32):=fun n hn=>by simpa using List.all_eq_true.1 hw3.2.1 n hn
 obtain ⟨n,rfl,_,_,_⟩:=open_int Tryd.underlying3 (hval 0 3 v0 rfl rfl) h0
 have t1:TW enc Tryd.prog W 32 v1.cells.toList:=TW.of h1 hk1
 rw [okWide_cells Tryd.underlying32 (hval 1 32 v1 rfl rfl)] at t1
 obtain ⟨g0,hg0,hgt⟩:=p_start hsh hL
 obtain ⟨ws,acs,hlay,hlen,hmap,hbd,hΦ⟩:=D.row (g0:=g0) (G:=Tryd.prog.globals.size) (e:=3) (w:=1) (N:=0) up_int Tryd.underlying32 (by kernel_rfl) (by decide) (Nat.le_of_ble_eq_true (by kernel_rfl)) (fun c hc=>D.int Tryd.underlying3 hc) t1 [] ⟨fun i w b h=>by simp at h,fun i w b h=>by simp at h⟩
 rw [List.nil_append] at hlay hmap hbd hΦ
 obtain ⟨A,c,l,rfl,hs⟩:=row_sg hΦ
 have hG:Tryd.prog.globals.size+ws.length≤rwM:=Nat.le_trans (Nat.add_le_add_left hlen _) (Nat.le_of_ble_eq_true (by kernel_rfl))
 have hN:(hpW Tryd.prog.globals.size g0 ws).n=rwM:=hpW_n _ _ _
 have ht:=nests_tf n l A c (hpW Tryd.prog.globals.size g0 ws) (hgt ws) hs
 have hh:=TF.below ht (fun i b h=>h) (by
  intro x hx
  have hx:x=Value.int .i64 n∨x=.slice A l.length c:=by simpa using hx
  rcases hx with rfl|rfl
  ·simp
  ·rw [hN];exact bnd_mono hG _ (hbd _ (by simp))) (Lay.hok hlay hG hg0)
 have hv1:ren (envW Tryd.prog.globals.size ws) (.slice A l.length c)=v1:=by
  have:[ren (envW Tryd.prog.globals.size ws) (.slice A l.length c)]=[v1]:=hmap
  injection this
 have hargs:(⟨[.int .i64 n,.slice A l.length c]⟩:Array Value).map (ren (envW Tryd.prog.globals.size ws))=#[.int .i64 n,v1]:=by
  simp only [List.map_toArray,List.map_cons,List.map_nil,ren_int,hv1]
 rw [hargs] at hh
 refine hh.mono fun e W' ⟨⟨ρ',he⟩,hb⟩=>?_
 have hres:DataW.TrodAll enc Tryd.prog W' W.heap.size (fun _=>false) false [4] [.bool true] [.lit (.bool true)] []:=trodAll_mk1 (shutB (by kernel_rfl))
 refine ⟨.bool true,by simpa using he,[d0,d1],[],before,[],p0++p1,[],hW',hres,?_,rfl,Below.frame hb _,fun h=>by cases h⟩
 refine trodAll_below Tryd.laidOut hb (ts:=Tryd.f5.params.toList) (fun t ht=>?_) (fun x hx=>hW'.lt x (by rw [hbe,List.append_nil];exact hx)) hA
 rw [hpar] at ht
 have ht:t=3∨t=32:=by simpa using ht
 rcases ht with rfl|rfl
 all_goals exact ⟨by kernel_rfl,of_decide_eq_true (by kernel_rfl)⟩
theorem parseNests_holds:Rows.ParseNestsSaid :=
 OpenClaim.holds_of_wide 5 Tryd.f5 rfl rfl rfl rfl rfl rfl rfl ⟨rfl,rfl,rfl,rfl,rfl⟩ rfl rfl rfl rfl rfl (by kernel_rfl) Tryd.func5 (by kernel_rfl)
  (of_decide_eq_true (by kernel_rfl)) (by unfold Func.isWrapper;rw [if_neg (by decide +kernel)];exact ⟨rfl,rfl⟩)
  (fun os started H enc _=>parseNests_lifted os started H enc)
theorem parseNests_card:Rows.ParseNestsCardSaid :=
 Claim7.holds_tied_plain_at .later [] [.listed, .data] true (true, "fbe29d2f2233dbc968bf1a5a798026bbfd66cca11189f7ddcb0e09bd08db5363") false
  parseNests_holds (fun _ h=>by cases h) (by kernel_rfl) (fun _ h=>by cases h) parseNests_row_tie rfl ⟨rfl,rfl⟩ (by kernel_rfl) rfl
  (fun f fn hf hfn=>by
   obtain rfl:f=5:=Option.some.inj ((show Tryd.prog.funcNamed Rows.parseNestsRow.func=some 5 by kernel_rfl).symm.trans hf) |>.symm
   obtain rfl:fn=Tryd.f5:=(Option.some.inj (Tryd.func5.symm.trans hfn)).symm
   exact ⟨by kernel_rfl,fun j t ht=>by
    rw [show Tryd.f5.params=#[3,32] by kernel_rfl] at ht
    have h3:t=3∨t=32:=by
     rcases j with _|_|j
     ·exact .inl (by simpa using ht.symm)
     ·exact .inr (by simpa using ht.symm)
     ·simp at ht
    rcases h3 with rfl|rfl
    ·exact (show Tryd.prog.wantsStandIn 3=false by kernel_rfl)
    ·exact (show Tryd.prog.wantsStandIn 32=false by kernel_rfl)⟩)
  (by kernel_rfl)
#print axioms parseNests_card
end Go.Proofs.YtbmmchaaiakanaaDoor
