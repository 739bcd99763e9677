/-
  What the functions that the law reaches compute,told by plain data;it holds of programs that pass the check of right form and are light.
-/
import Derived.KernelRfl
import Derived.Test.YtgpigfcagppohaaGreatDoorR2
import Derived.Test.YtgpigfcagppohaaGreatDoorR36
import Derived.Test.YtgpigfcagppohaaGreatDoorR5
set_option linter.unusedVariables false
set_option linter.unusedSimpArgs false
namespace Go.Proofs.YtgpigfcagppohaaGreatDoor
open Go.AH
attribute [local irreducible] W RS WR
section
variable {P:Program} {ops:Array Oper} {draw:Bool} {rs:List Rk} {l:List Oper} {fl:List (Nat × Value)} {nt:Nat} {h:SH} {K:Fr→SH→Prop} {d:Tmp} {ty:TypeId} {pos:String} {af:Array Edge} {gd:Option (Nat × Bool)}
theorem RS.remV [Pend] {t yt:TypeId} {x y:Operand} {k:IntKind} {a b r:Int} (hw:wantB ops ⟨some d,.binOp .rem t x y yt,ty,pos,af,gd⟩ ⟨fl,nt⟩=some true) (hd:Nat.blt d nt=true)
 (hx:Fr.ev ⟨fl,nt⟩ x=some (.int k a)) (hy:Fr.ev ⟨fl,nt⟩ y=some (.int k b)) (hb:b≠0) (hv:a.tmod b=r)
 (hk:RS P ops draw (recP h.k false [] (some [])::rs) l ⟨(d,.int k r)::fl,nt⟩ h K):RS P ops draw rs (⟨some d,.binOp .rem t x y yt,ty,pos,af,gd⟩::l) ⟨fl,nt⟩ h K:=by
 subst hv;exact RS.rem hw hd hx hy hb hk
end
theorem mod_fit {n:Int} {m:Nat} (hm:0 < m) (hb:m≤1000000):∃ i:Nat,i < m∧(n.tmod m+m).tmod m=(i:Int)∧-9223372036854775808≤n.tmod m+m∧n.tmod m+m≤9223372036854775807:=by
 have h1:(n.tmod m).natAbs < m:=by
  rw [Int.natAbs_tmod];simp;exact Nat.mod_lt _ hm
 obtain ⟨i,hi,he⟩:=idx_mod (n:=n) hm hb
 rw [wrap64_fit (by omega) (by omega)] at he
 exact ⟨i,hi,he,by omega,by omega⟩
theorem check_kind {l:List UInt8} {k:Nat} (hl:l.length≤16384) (hk:ckindT l=some k) {B:Hp} (g:G0 B):EX Tryz.prog 8 [.string ⟨⟨l⟩⟩] B (fun v h'=>(∃ A a,v=.tuple ⟨[.pointer A,.agg ⟨[.int .i64 (k:Int),.int .i64 a]⟩]⟩)∧Old B h'):=by
 unfold ckindT at hk
 obtain ⟨r,h1,h2⟩:=Option.map_eq_some_iff.1 hk
 refine (check_ex hl h1 g).mono ?_
 rintro v h' _ ⟨hq,ho⟩
 refine ⟨?_,ho⟩
 cases r with
 | error e=>subst h2;exact ⟨none,e.2,hq⟩
 | ok u =>
  subst h2
  obtain ⟨q,fb,mn,e1,_⟩:=hq
  exact ⟨some ⟨q.pb,0,none⟩,0,e1⟩
end Go.Proofs.YtgpigfcagppohaaGreatDoor
namespace Go.Proofs.YtgpigfcagppohaaGreatDoor
def nk (t:TokS):TokS:={ t with pos:=0 }
theorem scanL_mono:∀ {n k p:Nat} {l:List UInt8} {ts:List TokS},scanL n p l=some ts→scanL (n+k) p l=some ts:=by
 intro n
 induction n with
 | zero=>intro k p l ts h;cases l<;>cases h
 | succ n ih =>
  intro k p l ts h
  rw [show n+1+k=(n+k)+1 by omega]
  have mp:∀ {q:Nat} {r:List UInt8} {f:List TokS→List TokS},(scanL n q r).map f=some ts→(scanL (n+k) q r).map f=some ts:=by
   intro q r f he
   obtain ⟨x,hx,rfl⟩:=Option.map_eq_some_iff.1 he
   rw [ih hx];rfl
  cases l with
  | nil=>exact h
  | cons c r =>
   unfold scanL at h ⊢
   split at h
   ·rename_i hc;rw [if_pos hc];exact ih h
   rename_i hc;rw [if_neg hc]
   split at h
   ·cases h
   rename_i hc;rw [if_neg hc]
   split at h
   ·rename_i hc
    rw [if_pos hc]
    split at h
    ·rename_i hd;rw [if_pos hd];exact mp h
    ·cases h
   rename_i hc;rw [if_neg hc]
   split at h
   ·rename_i hc
    rw [if_pos hc]
    split at h
    ·exact mp h
    ·cases h
   rename_i hc;rw [if_neg hc]
   split at h
   ·cases h
   rename_i hc;rw [if_neg hc]
   split at h
   ·exact mp h
   ·cases h
def Sc (l r:List UInt8) (ks:List TokS):Prop:=∀ n p ts,scanL n (p+l.length) r=some ts→∃ us,scanL (n+l.length) p (l++r)=some (us++ts)∧us.map nk=ks
theorem Sc.nil {r:List UInt8}:Sc [] r []:=fun n p ts h=>⟨[],h,rfl⟩
theorem Sc.app {l1 l2 r:List UInt8} {k1 k2:List TokS} (h1:Sc l1 (l2++r) k1) (h2:Sc l2 r k2):Sc (l1++l2) r (k1++k2):=by
 intro n p ts h
 rw [List.length_append] at h ⊢
 obtain ⟨u2,e2,m2⟩:=h2 n (p+l1.length) ts (by rwa [Nat.add_assoc])
 obtain ⟨u1,e1,m1⟩:=h1 (n+l2.length) p _ e2
 exact ⟨u1++u2,by rw [List.append_assoc,List.append_assoc,show n+(l1.length+l2.length)=n+l2.length+l1.length by omega];exact e1,by rw [List.map_append,m1,m2]⟩
def foldT (us:List TokS) (o:Option (List TokS)):Option (List TokS):=us.foldr (fun t o=>o.map (List.cons t)) o
theorem foldT_some (us ts:List TokS):foldT us (some ts)=some (us++ts):=by
 unfold foldT
 induction us with
 | nil=>rfl
 | cons u us ih=>rw [List.foldr_cons,ih];rfl
def segT (l:List UInt8) (p:Nat):List TokS:=((scanL 200 p l).getD []).dropLast
theorem Sc.mk {l r:List UInt8} {ks:List TokS} (m:Nat) (hm:Nat.ble m l.length=true) (h:∀ n p,scanL (n+m) p (l++r)=foldT (segT l p) (scanL n (p+l.length) r)) (hk:∀ p,(segT l p).map nk=ks):Sc l r ks:=by
 intro n p ts hs
 refine ⟨segT l p,?_,hk p⟩
 have hm:m≤l.length:=Nat.le_of_ble_eq_true hm
 rw [show n+l.length=n+m+(l.length - m) by omega]
 refine scanL_mono ?_
 rw [h,hs,foldT_some]
theorem Sc.all {l:List UInt8} {ks:List TokS} (h:Sc l [] ks) (hl:l.length≤999):∃ us,scanL 1000 0 l=some us∧us.map nk=ks++[⟨0,⟨#[]⟩,0,0,false,false⟩]:=by
 obtain ⟨us,h1,h2⟩:=h 1 0 [endTok (0+l.length)] rfl
 rw [List.append_nil] at h1
 have h3:=scanL_mono (k:=1000 - (1+l.length)) h1
 rw [show 1+l.length+(1000 - (1+l.length))=1000 by omega] at h3
 exact ⟨_,h3,by rw [List.map_append,h2];rfl⟩
def Seg (T:Nat→TokS) (a:Nat) (ks:List TokS):Prop:=∀ i q,ks[i]?=some q→nk (T (a+i))=q
theorem Seg.of {L ks:List TokS} (h:L.map nk=ks):Seg (tokN L) 0 ks:=by
 intro i q hi
 subst h
 rw [List.getElem?_map] at hi
 obtain ⟨t,h1,h2⟩:=Option.map_eq_some_iff.1 hi
 have hlt:=(List.getElem?_eq_some_iff.1 h1).1
 unfold tokN
 rw [Nat.zero_add,show min i (L.length - 1)=i by omega,List.getD_eq_getElem?_getD,h1]
 exact h2
section
variable {T:Nat→TokS} {a b c d k n m:Nat} {ks ls:List TokS} {q:TokS} {e e1 e2 e3:ExprS} {s:ByteArray}
theorem Seg.left (h:Seg T a (ks++ls)):Seg T a ks:=fun i q hi=>h i q (by rw [List.getElem?_append_left (List.getElem?_eq_some_iff.1 hi).1];exact hi)
theorem Seg.right (h:Seg T a (ks++ls)):Seg T (a+ks.length) ls:=fun i q hi=>by
 rw [Nat.add_assoc]
 exact h _ q (by rw [List.getElem?_append_right (by omega),show ks.length+i - ks.length=i by omega];exact hi)
theorem Seg.head (h:Seg T a (q::ks)):nk (T a)=q:=h 0 q rfl
def sgn (c:UInt8):TokS:=⟨4,b1 c,0,0,false,false⟩
def sgn2 (c c':UInt8):TokS:=⟨4,b2 c c',0,0,false,false⟩
def wrd (s:ByteArray):TokS:=⟨2,s,0,0,false,false⟩
def nam (s:ByteArray):TokS:=⟨1,s,0,0,false,false⟩
def num (s:ByteArray) (v:Nat):TokS:=⟨3,s,0,v,false,false⟩
theorem kind_nk {t:TokS} (h:nk t=q):t.kind=q.kind:=by subst h;rfl
theorem text_nk {t:TokS} (h:nk t=q):t.text=q.text:=by subst h;rfl
theorem wordy_nk {t:TokS} (h:nk t=q) (s:ByteArray):wordy t s=wordy q s:=by subst h;rfl
theorem typed_nk {t:TokS} (h:nk t=q):typedT t=typedT q:=by subst h;rfl
theorem takeN {s:ByteArray} (h:wordy (T a) s=false):PS.take T ⟨a,d,k,0,0⟩ s=some (false,⟨a,d,k,0,0⟩):=by
 unfold PS.take
 rw [if_neg]
 rintro ⟨_,h2⟩
 have h2:wordy (T a) s=true:=h2
 rw [h] at h2;cases h2
theorem takeYq {s:ByteArray} (h:wordy (T a) s=true) (ha:a < 4000):PS.take T ⟨a,d,k,0,0⟩ s=some (true,⟨a+1,d,k,0,0⟩):=by
 unfold PS.take PS.adv
 rw [if_pos ⟨rfl,h⟩,if_pos (show a < 1000000 by omega)];rfl
theorem wantY {s:ByteArray} (h:wordy (T a) s=true) (ha:a < 4000):PS.want T ⟨a,d,k,0,0⟩ s=some ⟨a+1,d,k,0,0⟩:=by
 unfold PS.want
 rw [takeYq h ha];rfl
theorem advY (ha:a < 4000):PS.adv ⟨a,d,k,0,0⟩=some ⟨a+1,d,k,0,0⟩:=by unfold PS.adv;rw [if_pos (by show a < 1000000;omega)]
theorem downY (hd:d < 60):PS.down T ⟨a,d,k,0,0⟩=some ⟨a,d+1,k,0,0⟩:=by
 unfold PS.down
 dsimp only
 rw [if_pos (by omega),if_neg (by omega)]
theorem upY:PS.up ⟨a,d+1,k,0,0⟩=some ⟨a,d,k,0,0⟩:=by
 unfold PS.up
 dsimp only
 rw [if_pos (by omega)];rfl
theorem nodeY (hk:k < 6000):PS.node T ⟨a,d,k,0,0⟩=some ⟨a,d,k+1,0,0⟩:=by
 unfold PS.node
 dsimp only
 rw [if_pos (by omega),if_neg (by omega)]
theorem exprY {op pos:Nat} {text:ByteArray} {kids:List ExprS} (hk:k < 6000):exprS T ⟨a,d,k,0,0⟩ op pos text kids=some (.mk op pos text zeroTok zeroType kids,⟨a,d,k+1,0,0⟩):=by
 unfold exprS
 rw [nodeY hk];rfl
theorem upEY {e:ExprS}:upE (some (e,⟨a,d+1,k,0,0⟩))=some (e,⟨a,d,k,0,0⟩):=by
 unfold upE
 simp only [Option.bind_eq_bind,Option.bind_some,upY]
theorem isY (h:nk (T a)=q) (s:ByteArray):PS.is T ⟨a,d,k,0,0⟩ s=wordy q s:=wordy_nk h s
end
def LeO {α:Type} (x y:Option α):Prop:=∀ v,x=some v→y=some v
theorem LeO.rfl' {α:Type} {x:Option α}:LeO x x:=fun _ h=>h
theorem LeO.none {α:Type} {y:Option α}:LeO .none y:=fun _ h=>by cases h
theorem LeO.bind {α β:Type} {x y:Option α} {f g:α→Option β} (h:LeO x y) (hf:∀ v,LeO (f v) (g v)):LeO (x >>= f) (y >>= g):=by
 intro v hv
 obtain ⟨u,h1,h2⟩:=Option.bind_eq_some_iff.1 hv
 exact Option.bind_eq_some_iff.2 ⟨u,h u h1,hf u v h2⟩
theorem LeO.ite {α:Type} {p:Prop} [Decidable p] {x y x' y':Option α} (h1:LeO x x') (h2:LeO y y'):LeO (if p then x else y) (if p then x' else y'):=by
 split
 ·exact h1
 ·exact h2
theorem LeO.upE {x y:Option (ExprS × PS)} (h:LeO x y):LeO (upE x) (upE y):=by
 unfold Proofs.YtgpigfcagppohaaGreatDoor.upE
 exact LeO.bind h fun _=>LeO.rfl'
section
variable {T:Nat→TokS}
theorem stars_le:∀ (n:Nat) (st:PS) (k:Nat),LeO (starsS T n st k) (starsS T (n+1) st k)
 | 0,st,k=>LeO.none
 | n+1,st,k=>by
  rw [starsS,starsS]
  refine LeO.bind LeO.rfl' fun r=>LeO.ite (LeO.ite (stars_le n _ _) LeO.rfl') LeO.rfl'
theorem parse_le:∀ (n:Nat) (r:Req) (st:PS),LeO (parseE T n r st) (parseE T (n+1) r st)
 | 0,r,st=>by rw [parseE];exact LeO.none
 | n+1,r,st=>by
  have ih:=parse_le n
  cases r<;>rw [parseE,parseE] <;>
  repeat (first|exact ih _ _|exact stars_le n _ _|exact LeO.rfl'|exact LeO.none|refine LeO.upE ?_|refine LeO.bind ?_ fun _=>?_|refine LeO.ite ?_ ?_)
end
end Go.Proofs.YtgpigfcagppohaaGreatDoor
