/-
  What the functions that the law reaches compute,told by plain data;it holds of programs that pass the check of right form and are light.
-/
import Derived.Carry
import Derived.LaidMore
import Derived.Lib.LaidTab
import Derived.Lib.Space
import Derived.OpenShut
import Derived.ProofKit
import Derived.Shelf.Vars
import Derived.Stop.Joined
import Derived.Test.YtbmmchaaiakanaaDoorCards
import Derived.Test.YtbmmchaaiakanaaDoorChecked
import Derived.Test.YtbmmchaaiakanaaDoorR2
import Derived.Test.YtbmmchaaiakanaaDoorR3
import Derived.Test.YtbmmchaaiakanaaDoorR6
import Derived.Test.YtbmmchaaiakanaaDoorS1
import Derived.Test.YtbmmchaaiakanaaDoorS2
import Derived.Test.YtbmmchaaiakanaaDoorTie
set_option linter.unusedVariables false
set_option linter.unusedSimpArgs false
namespace Go.Proofs.YtbmmchaaiakanaaDoor
theorem tl_get {s:ByteArray} {p:Nat}:tl s p=s.data.toList.drop p:=by
 unfold tl
 rw [Lib.extract_data]
 simp [List.take_of_length_le]
theorem at_cons {s:ByteArray} {p:Nat} {c:UInt8} {r:List UInt8} (h:tl s p=c::r):p < s.size∧chr s p=(c.toNat:Int)∧tl s (p+1)=r:=by
 rw [tl_get] at h
 have hlt:p < s.data.toList.length:=by
  rcases Nat.lt_or_ge p s.data.toList.length with h1|h1
  ·exact h1
  ·rw [List.drop_eq_nil_of_le h1] at h;cases h
 rw [List.drop_eq_getElem_cons hlt] at h
 injection h with h1 h2
 have hs:p < s.size:=by simpa using hlt
 refine ⟨hs,?_,by rw [tl_get];exact h2⟩
 rw [chr_lt hs,← h1];rfl
theorem at_nil {s:ByteArray} {p:Nat} (h:tl s p=[]):s.size≤p:=by
 rw [tl_get] at h
 have:=List.drop_eq_nil_iff.1 h
 simpa using this
theorem tl_app {s:ByteArray}:∀ (a b:List UInt8) (p:Nat),tl s p=a++b→tl s (p+a.length)=b:=by
 intro a
 induction a with
 | nil=>intro b p h;exact h
 | cons c a ih =>
  intro b p h
  have h1:=(at_cons (show tl s p=c::(a++b) from h)).2.2
  have:=ih b (p+1) h1
  rw [show p+(c::a).length=p+1+a.length by simp;omega];exact this
theorem tl_ext {s:ByteArray} {p:Nat} {a b:List UInt8} (h:tl s p=a++b):s.extract p (p+a.length)=⟨⟨a⟩⟩:=by
 have h0:(s.extract p (p+a.length)).data.toList=a:=by
  rw [Lib.extract_data]
  rw [tl_get] at h
  rw [h,show p+a.length - p=a.length by omega,List.take_left]
 cases he:s.extract p (p+a.length) with
 | mk d =>
  rw [he] at h0
  cases d with
  | mk l=>simp at h0;rw [h0]
theorem blank_here {s:ByteArray} {p:Nat} (hp:p < s.size) (h1:blankI (chr s p)=false) (h2:¬ (chr s p=47∧(chr s (p+1)=47∨chr s (p+1)=42))):blankS s p=(p,true):=by
 unfold blankS
 rw [show s.size - p=(s.size - (p+1))+1 by omega,blankF2,if_neg (by rw [h1];decide),if_neg (fun h=>h2 ⟨h.1,.inl h.2⟩),if_neg (fun h=>h2 ⟨h.1,.inr h.2⟩)]
theorem blank_step {s:ByteArray} {p:Nat} (hp:p < s.size) (h1:blankI (chr s p)=true):blankS s p=blankS s (p+1):=by
 unfold blankS
 rw [show s.size - p=(s.size - (p+1))+1 by omega,blankF2,if_pos h1]
def takeW:List UInt8→List UInt8
 | []=>[]
 | c::r=>if wordyI (ic c)=true then c::takeW r else []
def dropW:List UInt8→List UInt8
 | []=>[]
 | c::r=>if wordyI (ic c)=true then dropW r else c::r
theorem takeW_app:∀ l,takeW l++dropW l=l
 | []=>rfl
 | c::r=>by
  unfold takeW dropW
  split
  ·rw [List.cons_append,takeW_app r]
  ·rfl
theorem wordE_take {s:ByteArray}:∀ (l:List UInt8) (p:Nat),tl s p=l→wordE s p=p+(takeW l).length
 | [],p,h=>by
  have:=at_nil h
  rw [wordE_end (by rw [chr_ge (by omega)];decide)];rfl
 | c::r,p,h=>by
  obtain ⟨h1,h2,h3⟩:=at_cons h
  unfold takeW
  by_cases hw:wordyI (ic c)=true
  ·rw [if_pos hw,wordE_step (by rw [h2];exact hw),wordE_take r (p+1) h3]
   simp only [List.length_cons];omega
  ·rw [if_neg hw,wordE_end (by rw [h2];exact hw)];rfl
def numV:List UInt8→Nat→Option Nat
 | [],v=>some v
 | c::r,v=>if digitI (ic c)=true∧¬ (18446744073709551615 - (c.toNat - 48)) / 10 < v then numV r (v * 10+(c.toNat - 48)) else none
theorem digit_val {c:UInt8} (h:digitI (ic c)=true):valN (ic c)=c.toNat - 48∧c.toNat - 48 < 10∧wordyI (ic c)=true:=by
 have h0:=h
 unfold digitI ic at h
 simp only [Bool.and_eq_true,decide_eq_true_eq] at h
 refine ⟨?_,by omega,by unfold wordyI;rw [h0];simp⟩
 unfold valN valueI
 rw [if_pos h0]
 unfold ic;omega
theorem numL_take {s:ByteArray}:∀ (w b:List UInt8) (e v x:Nat),tl s e=w++b→(∀ c r,b=c::r→wordyI (ic c)=false)→numV w v=some x→numL s 10 (s.size - e) e v=some (x,e+w.length)
 | [],b,e,v,x,h,hb,hx=>by
  simp only [numV,Option.some.injEq] at hx
  subst hx
  by_cases he:e < s.size
  ·rw [numL_step he]
   match b,h,hb with
   | [],h,_=>have:=at_nil h;omega
   | c::r,h,hb =>
    have h2:=(at_cons h).2.1
    rw [if_neg (fun hc=>by rw [h2] at hc;have:=hb c r rfl;unfold ic at this;rw [this] at hc;exact absurd hc.1 (by decide))];rfl
  ·rw [numL_end he];rfl
 | c::w,b,e,v,x,h,hb,hx=>by
  obtain ⟨h1,h2,h3⟩:=at_cons (show tl s e=c::(w++b) from h)
  simp only [numV] at hx
  split at hx
  ·rename_i hc
   obtain ⟨d1,d2,d3⟩:=digit_val hc.1
   have e2:chr s e=ic c:=h2
   rw [numL_step h1,e2,if_pos ⟨d3,by omega⟩,d1,if_neg hc.2,numL_take w b (e+1) _ x h3 hb hx]
   simp only [List.length_cons];congr 2;omega
  ·cases hx
def headW (b:List UInt8):Bool:=match b with
 | []=>false
 | c::_=>wordyI (ic c)
theorem dropW_head:∀ l,headW (dropW l)=false
 | []=>rfl
 | c::r=>by
  unfold dropW
  split
  ·exact dropW_head r
  ·rename_i h;unfold headW;simpa using h
theorem number_take {s:ByteArray} {p:Nat} {w b:List UInt8} {x:Nat} (h:tl s p=w++b) (hb:headW b=false) (hx:numV w 0=some x) (hne:w≠[]):numberS s p=(⟨3,⟨⟨w⟩⟩,p,x,false,false⟩,true):=by
 have hb':∀ c r,b=c::r→wordyI (ic c)=false:=fun c r e=>by subst e;exact hb
 have hn:=numL_take w b p 0 x h hb' hx
 have hend:=tl_app w b p h
 have hnw:wordyI (chr s (p+w.length))=false:=by
  match b,hend,hb with
  | [],hend,_=>rw [chr_ge (by have:=at_nil hend;omega)];decide
  | c::r,hend,hb=>rw [(at_cons hend).2.1];exact hb
 have hu:(chr s (p+w.length) == 117)=false:=by
  rw [beq_eq_false_iff_ne];intro e;rw [e] at hnw;exact absurd hnw (by decide)
 have hl:(chr s (p+w.length) == 108)=false:=by
  rw [beq_eq_false_iff_ne];intro e;rw [e] at hnw;exact absurd hnw (by decide)
 have hhex:numHex s p=false:=by
  match w,hne,h,hx with
  | c::w',_,h,hx =>
   obtain ⟨h1,h2,h3⟩:=at_cons (show tl s p=c::(w'++b) from h)
   unfold numHex
   rw [Bool.and_eq_false_iff]
   match w',h3,hx with
   | d::w'',h3,hx =>
    right
    rw [(at_cons (show tl s (p+1)=d::(w''++b) from h3)).2.1,beq_eq_false_iff_ne]
    intro e
    simp only [numV] at hx
    split at hx
    ·rename_i hc
     obtain ⟨d1,d2,_⟩:=digit_val hc.1
     have:=hc.1
     split at hx
     ·rename_i hc2
      have:=hc2.1
      unfold digitI ic at this
      simp only [Bool.and_eq_true,decide_eq_true_eq] at this
      omega
     ·cases hx
    ·cases hx
   | [],h3,hx =>
    right
    match b,h3,hb with
    | [],h3,_=>rw [chr_ge (by have:=at_nil (show tl s (p+1)=[] from h3);omega)];decide
    | d::r,h3,hb =>
     rw [(at_cons (show tl s (p+1)=d::r from h3)).2.1,beq_eq_false_iff_ne]
     intro e
     have:wordyI (ic d)=false:=hb
     unfold ic at this
     rw [e] at this
     exact absurd this (by decide)
 unfold numberS
 rw [if_neg (by rw [hhex];decide)]
 unfold numberR
 rw [hn]
 dsimp only
 rw [if_neg (by cases w with|nil=>exact absurd rfl hne|cons c w=>simp)]
 unfold numTail
 simp only [hu,hl,Bool.false_eq_true,if_false,hnw]
 rw [tl_ext h];rfl
def slashB (l:List UInt8):Bool:=match l with
 | 47::47::_=>true
 | 47::42::_=>true
 | _=>false
def scanL:Nat→Nat→List UInt8→Option (List TokS)
 | 0,_,_=>none
 | n+1,p,[]=>some [endTok p]
 | n+1,p,c::r =>
  if blankI (ic c)=true then scanL n (p+1) r
  else if slashB (c::r)=true then none
  else if letterI (ic c)=true then
   (if (takeW (c::r)).length≤40 then (scanL n (p+(takeW (c::r)).length) (dropW (c::r))).map fun l=>⟨if isWord ⟨⟨takeW (c::r)⟩⟩=true then 2 else 1,⟨⟨takeW (c::r)⟩⟩,p,0,false,false⟩::l else none)
  else if digitI (ic c)=true then
   (match numV (takeW (c::r)) 0 with
   | some x=>(scanL n (p+(takeW (c::r)).length) (dropW (c::r))).map fun l=>⟨3,⟨⟨takeW (c::r)⟩⟩,p,x,false,false⟩::l
   | none=>none)
  else if c.toNat=39 then none
  else match signList.find? (fun x=>Lib.hasPrefix (c::r) x) with
   | some x=>(scanL n (p+x.length) ((c::r).drop x.length)).map fun l=>⟨4,⟨⟨x⟩⟩,p,0,false,false⟩::l
   | none=>none
theorem sign_len:signList.all (fun x=>Nat.ble 1 x.length)=true:=by kernel_rfl
theorem scanF_at {s:ByteArray} {n p q:Nat} {out:List TokS} (h:blankS s p=blankS s q):scanF s n p out=scanF s n q out∨n=0:=by
 cases n with
 | zero=>exact .inr rfl
 | succ n=>left;rw [scanF,scanF,h]
theorem scanL_ok {s:ByteArray}:∀ (n p:Nat) (ts:List TokS),p≤s.size→scanL n p (tl s p)=some ts→∀ m out,s.size - p < m→scanF s m p out=.ok (out++ts):=by
 intro n
 induction n with
 | zero=>intro p ts _ h;cases h
 | succ n ih =>
  intro p ts hp h m out hm
  obtain ⟨m,rfl⟩:∃ m',m=m'+1:=⟨m - 1,by omega⟩
  cases hl:tl s p with
  | nil =>
   rw [hl] at h
   simp only [scanL,Option.some.injEq] at h
   subst h
   have hpe:p=s.size:=by have:=at_nil hl;omega
   rw [scanF]
   have hb:blankS s p=(p,true):=by unfold blankS;exact blankF2_end (by omega)
   rw [hb]
   dsimp only
   rw [if_pos hpe]
  | cons c r =>
   rw [hl] at h
   obtain ⟨h1,h2,h3⟩:=at_cons hl
   have e2:chr s p=ic c:=h2
   simp only [scanL] at h
   by_cases hbl:blankI (ic c)=true
   ·rw [if_pos hbl] at h
    rcases scanF_at (n:=m+1) (out:=out) (blank_step h1 (by rw [e2];exact hbl)) with e|e
    ·rw [e];exact ih (p+1) ts (by omega) (by rw [h3];exact h) (m+1) out (by omega)
    ·omega
   ·rw [if_neg hbl] at h
    by_cases hsl:slashB (c::r)=true
    ·rw [if_pos hsl] at h;cases h
    ·rw [if_neg hsl] at h
     have hb:blankS s p=(p,true):=by
      refine blank_here h1 (by rw [e2];simpa using hbl) ?_
      rintro ⟨hc,hd⟩
      apply hsl
      have hc47:c=47:=by
       have:(c.toNat:Int)=47:=by rw [← h2];exact hc
       exact UInt8.toNat_inj.1 (by show c.toNat=47;omega)
      subst hc47
      cases hr:r with
      | nil=>rw [hr] at h3;rw [chr_ge (by have:=at_nil h3;omega)] at hd;rcases hd with hd|hd<;>exact absurd hd (by decide)
      | cons d r' =>
       rw [hr] at h3
       have hd2:=(at_cons h3).2.1
       rw [hd2] at hd
       rcases hd with hd|hd
       ·obtain rfl:d=47:=UInt8.toNat_inj.1 (by show d.toNat=47;omega)
        rfl
       ·obtain rfl:d=42:=UInt8.toNat_inj.1 (by show d.toNat=42;omega)
        rfl
     have key:∀ (t:TokS) (l:List TokS) (b:List UInt8),oneS s p=(t,true)→1≤t.text.size→p+t.text.size≤s.size→tl s (p+t.text.size)=b→scanL n (p+t.text.size) b=some l→ts=t::l→scanF s (m+1) p out=.ok (out++ts):=by
      intro t l b ho ht1 ht2 hb2 hsc hts
      rw [scanF,hb]
      dsimp only
      rw [if_neg (by omega),ho]
      dsimp only
      rw [ih (p+t.text.size) l ht2 (by rw [hb2];exact hsc) m _ (by omega),hts]
      simp
     have hword:=takeW_app (c::r)
     have htl:tl s p=takeW (c::r)++dropW (c::r):=by rw [hword];exact hl
     have hsz:∀ a:List UInt8,(⟨⟨a⟩⟩:ByteArray).size=a.length:=fun a=>rfl
     have hple:∀ a b:List UInt8,tl s p=a++b→p+a.length≤s.size:=fun a b e=>by
      have:=congrArg List.length e
      rw [tl_get] at this
      simp at this;omega
     by_cases hlt:letterI (ic c)=true
     ·rw [if_pos hlt] at h
      split at h
      ·rename_i h40
       obtain ⟨l,hl1,hl2⟩:=Option.map_eq_some_iff.1 h
       have hw1:1≤(takeW (c::r)).length:=by
        unfold takeW
        rw [if_pos (by unfold wordyI;rw [hlt];rfl)]
        simp
       have hE:=wordE_take (c::r) p hl
       refine key ⟨if isWord ⟨⟨takeW (c::r)⟩⟩=true then 2 else 1,⟨⟨takeW (c::r)⟩⟩,p,0,false,false⟩ l (dropW (c::r)) ?_ hw1 (hple _ _ htl) (tl_app _ _ p htl) hl1 hl2.symm
       unfold oneS
       rw [e2,if_pos hlt,hE,tl_ext htl,decide_eq_true (by omega)]
      ·cases h
     ·rw [if_neg hlt] at h
      by_cases hdg:digitI (ic c)=true
      ·rw [if_pos hdg] at h
       cases hnv:numV (takeW (c::r)) 0 with
       | none=>rw [hnv] at h;cases h
       | some x =>
        rw [hnv] at h
        obtain ⟨l,hl1,hl2⟩:=Option.map_eq_some_iff.1 h
        have hw1:1≤(takeW (c::r)).length:=by
         unfold takeW
         rw [if_pos (digit_val hdg).2.2]
         simp
        refine key ⟨3,⟨⟨takeW (c::r)⟩⟩,p,x,false,false⟩ l (dropW (c::r)) ?_ hw1 (hple _ _ htl) (tl_app _ _ p htl) hl1 hl2.symm
        unfold oneS
        rw [e2,if_neg hlt,if_pos hdg]
        exact number_take htl (dropW_head _) hnv (fun e=>by rw [e] at hw1;simp at hw1)
      ·rw [if_neg hdg] at h
       by_cases h39:c.toNat=39
       ·rw [if_pos h39] at h;cases h
       ·rw [if_neg h39] at h
        cases hf:signList.find? (fun x=>Lib.hasPrefix (c::r) x) with
        | none=>rw [hf] at h;cases h
        | some x =>
         rw [hf] at h
         obtain ⟨l,hl1,hl2⟩:=Option.map_eq_some_iff.1 h
         have hx1:1≤x.length:=by
          have:=List.all_eq_true.1 sign_len x (List.mem_of_find?_eq_some hf)
          simpa using this
         have hpre:x <+: (c::r):=by
          have:=List.find?_some hf
          unfold Lib.hasPrefix at this
          simpa using this
         obtain ⟨b,hxb⟩:=hpre
         have htl2:tl s p=x++b:=by rw [hxb];exact hl
         refine key ⟨4,⟨⟨x⟩⟩,p,0,false,false⟩ l b ?_ hx1 (hple _ _ htl2) (tl_app _ _ p htl2) (by rw [← hxb,List.drop_left] at hl1;exact hl1) hl2.symm
         unfold oneS
         have h39':¬ ic c=39:=by unfold ic;omega
         rw [e2,if_neg hlt,if_neg hdg,if_neg h39']
         have:signList.find? (signAt s p)=some x:=by
          rw [← hf]
          congr 1
          funext y
          unfold signAt
          rw [hl]
         rw [this]
theorem scan_list {l:List UInt8} {n:Nat} {ts:List TokS} (hl:l.length≤16384) (h:scanL n 0 l=some ts):scanS ⟨⟨l⟩⟩=.ok ts:=by
 have hs:(⟨⟨l⟩⟩:ByteArray).size=l.length:=rfl
 unfold scanS
 rw [if_neg (by omega)]
 have ht:tl ⟨⟨l⟩⟩ 0=l:=by rw [tl_get];rfl
 have:=scanL_ok (s:=⟨⟨l⟩⟩) n 0 ts (Nat.zero_le _) (by rw [ht];exact h) ((⟨⟨l⟩⟩:ByteArray).size+1) [] (by omega)
 simpa using this
end Go.Proofs.YtbmmchaaiakanaaDoor
namespace Go.Proofs.YtbmmchaaiakanaaDoor
def repL (s:List UInt8):Nat→List UInt8
 | 0=>[]
 | k+1=>repL s k++s
def chunk:Nat→List TokS→List (List TokS)
 | 0,_=>[]
 | n+1,l=>l.take 16::chunk n (l.drop 16)
def chunkG (c:List (List TokS)) (k i:Nat):TokS:=(c.getD (min i k / 16) []).getD (min i k % 16) zeroTok
theorem chunk_get:∀ (n:Nat) (l:List TokS) (i:Nat),l.length≤16 * n→((chunk n l).getD (i / 16) []).getD (i % 16) zeroTok=l.getD i zeroTok:=by
 intro n
 induction n with
 | zero =>
  intro l i h
  have:l=[]:=List.eq_nil_of_length_eq_zero (by omega)
  subst this;rfl
 | succ n ih =>
  intro l i h
  rw [chunk]
  by_cases hi:i < 16
  ·rw [show i / 16=0 by omega,show i % 16=i by omega]
   simp only [List.getD_eq_getElem?_getD,List.getElem?_cons_zero,Option.getD_some,List.getElem?_take,if_pos hi]
  ·obtain ⟨j,rfl⟩:∃ j,i=j+16:=⟨i - 16,by omega⟩
   rw [show (j+16) / 16=j / 16+1 by omega,show (j+16) % 16=j % 16 by omega]
   have:=ih (l.drop 16) j (by simp;omega)
   simp only [List.getD_eq_getElem?_getD,List.getElem?_cons_succ] at this ⊢
   rw [this,List.getElem?_drop,Nat.add_comm]
def parseL (L:List TokS):Option (Except (Nat × Nat) UnitS):=parseU 1000 (chunkG (chunk 64 L) (L.length - 1))
theorem parseL_eq {L:List TokS} (h:L.length≤1024):parseL L=parseU 1000 (tokN L):=by
 unfold parseL
 congr 1
 funext i
 unfold chunkG tokN
 exact chunk_get 64 L _ (by omega)
def parseT (l:List UInt8):Option (Except (Nat × Nat) UnitS):=(scanL 1000 0 l).bind parseL
def kindT (l:List UInt8):Option Nat:=(parseT l).map fun r=>match r with
 | .error p=>p.1
 | .ok _=>0
def ExprS.text:ExprS→ByteArray
 | .mk _ _ t _ _ _=>t
def ExprS.kids:ExprS→List ExprS
 | .mk _ _ _ _ _ k=>k
open Go.AH
def G0 (h:Hp):Prop:=(∃ m,h.m 1=some ⟨⟨[.int .i64 m]⟩,3⟩)∧h.m 0=some ⟨⟨spaceV⟩,103⟩
theorem G0.up {h H:Hp} (g:G0 h) (hu:∀ i c,h.m i=some c→H.m i=some c):G0 H:=by
 obtain ⟨⟨m,h1⟩,h2⟩:=g
 exact ⟨⟨m,hu _ _ h1⟩,hu _ _ h2⟩
theorem G0.both {h:Hp} (g:G0 h):GL h∧GS h:=by
 obtain ⟨⟨m,h1⟩,h2⟩:=g
 exact ⟨⟨m,_,h1⟩,⟨_,h2⟩⟩
theorem scanL_len:∀ {n p:Nat} {l:List UInt8} {ts:List TokS},scanL n p l=some ts→0 < ts.length∧ts.length≤n:=by
 intro n
 induction n with
 | zero=>intro p l ts h;cases l<;>cases h
 | succ n ih =>
  intro p l ts h
  have key:∀ {q:Nat} {r:List UInt8} {t:TokS},(scanL n q r).map (fun x=>t::x)=some ts→0 < ts.length∧ts.length≤n+1:=by
   intro q r t he
   obtain ⟨x,hx,rfl⟩:=Option.map_eq_some_iff.1 he
   have:=ih hx
   simp only [List.length_cons];omega
  cases l with
  | nil=>simp only [scanL,Option.some.injEq] at h;subst h;simp
  | cons c r =>
   unfold scanL at h
   split at h
   ·have:=ih h;omega
   split at h
   ·cases h
   split at h
   ·split at h
    ·exact key h
    ·cases h
   split at h
   ·split at h
    ·exact key h
    ·cases h
   split at h
   ·cases h
   split at h
   ·exact key h
   ·cases h
theorem parseT_iff {l:List UInt8} {r:Except (Nat × Nat) UnitS} (h:parseT l=some r):∃ L,scanL 1000 0 l=some L∧ToksOK L∧parseU 1000 (tokN L)=some r:=by
 unfold parseT at h
 obtain ⟨L,h1,h2⟩:=Option.bind_eq_some_iff.1 h
 obtain ⟨k1,k2⟩:=scanL_len h1
 rw [parseL_eq (by omega)] at h2
 exact ⟨L,h1,⟨k1,by omega⟩,h2⟩
theorem scan_ex {l:List UInt8} {L:List TokS} (hl:l.length≤16384) (h1:scanL 1000 0 l=some L) {B:Hp} (g:G0 B) (s:Sat Tryd.prog B):EX Tryd.prog 9 [.string ⟨⟨l⟩⟩] B (ScanQ L B):=by
 have ht:=scan_tf ⟨⟨l⟩⟩ B g.both
 rw [scan_list hl h1] at ht
 refine ht.ex.mono ?_
 rintro v h' _ ⟨rfl,rfl⟩
 refine ⟨B.n,_,rfl,?_,Nat.le_succ _,fun i hi=>?_⟩
 ·show (if B.n=B.n then _ else _)=_
  rw [if_pos rfl]
 ·show (if i=B.n then _ else _)=_
  rw [if_neg (by omega)]
theorem parse_ex {l:List UInt8} {r:Except (Nat × Nat) UnitS} (hl:l.length≤16384) (h:parseT l=some r) {B:Hp} (g:G0 B):EX Tryd.prog 8 [.string ⟨⟨l⟩⟩] B (fun v h'=>ParseQ r v h'∧Old B h'):=by
 intro s hb
 obtain ⟨L,h1,h2,h3⟩:=parseT_iff h
 have hdom:∀ i b,B.m i=some b→i < B.n:=by obtain ⟨ρ,W,ho⟩:=s;exact ho.lt
 let k:Nat→Bool:=fun i=>decide (i < B.n) && !(i == 1 || i == 0)
 have hg:G0 (B.hide k):=by
  obtain ⟨⟨m,h4⟩,h5⟩:=g
  exact ⟨⟨m,hide_some.2 ⟨by simp [k],h4⟩⟩,hide_some.2 ⟨by simp [k],h5⟩⟩
 have hp:=parse_ok (h:=B.hide k) (src:=⟨⟨l⟩⟩) h2 h3 fun B' hu s hb=>scan_ex hl h1 (hg.up hu) s s hb
 refine (EX.mono (EX.frame k (fun i hi=>by simp [k] at hi;exact hi.1) hp) ?_) s hb
 rintro v h' s ⟨h6,hq,rfl,hn,hup⟩
 obtain ⟨q1,q2⟩:=hq
 refine ⟨?_,hn,fun i hi=>?_⟩
 ·cases r with
  | error e=>exact q1
  | ok u =>
   obtain ⟨ub,gb,gs,fb,fs,e1,e2⟩:=q1
   exact ⟨ub,gb,gs,fb,fs,e1,e2.kept fun i c hc _=>hup i c hc⟩
 ·cases hk:k i with
  | true=>exact back_hid hk
  | false =>
   have hc:i=1∨i=0:=by
    simp only [k,Bool.and_eq_false_iff,decide_eq_false_iff_not,Bool.not_eq_false',Bool.or_eq_true,beq_iff_eq] at hk
    rcases hk with h|h
    ·exact absurd hi h
    ·exact h
   obtain ⟨⟨m,h4⟩,h5⟩:=hg
   rw [back_not hk]
   rcases hc with rfl|rfl
   ·rw [q2 _ _ h4 rfl];exact (hide_some.1 h4).2.symm
   ·rw [q2 _ _ h5 rfl];exact (hide_some.1 h5).2.symm
attribute [local irreducible] W RS WR
section
variable {P:Program} {ops:Array Oper} {draw:Bool} {rs:List Rk} {l:List Oper} {fl:List (Nat × Value)} {nt:Nat} {h:SH} {K:Fr→SH→Prop} {d:Tmp} {ty:TypeId} {pos:String} {af:Array Edge} {gd:Option (Nat × Bool)}
theorem RS.nePtr [Pend] {t e yt:TypeId} {x y:Operand} {A:Option Addr} [hu:TyU P t (.pointer e)] (hw:wantB ops ⟨some d,.binOp .neq t x y yt,ty,pos,af,gd⟩ ⟨fl,nt⟩=some true) (hd:Nat.blt d nt=true)
 (hx:Fr.ev ⟨fl,nt⟩ x=some (.pointer A)) (hy:Fr.ev ⟨fl,nt⟩ y=some (.pointer none))
 (hk:RS P ops draw (recP h.k false [] (some [])::rs) l ⟨(d,.bool (!A.isNone))::fl,nt⟩ h K):RS P ops draw rs (⟨some d,.binOp .neq t x y yt,ty,pos,af,gd⟩::l) ⟨fl,nt⟩ h K :=
 RS.free hw hd (fun a g H=>by
  have:=TX.eqPtrNil (P:=P) (o:=⟨some d,.binOp .neq t x y yt,ty,pos,af,gd⟩) (ev:=a.eval) (h:=H) (op:=.neq) rfl rfl hu.eq (g.ev hx) (g.ev hy)
  simpa using this) (by simp) hk
end
theorem RowAt.one {h:Hp} {lo:Nat} {e:TypeId} {A:Option Addr} {cs:List Value} (r:RowAt h lo e A cs) (hc:cs≠[]):∃ b,A=some ⟨b,0,none⟩∧h.m b=some ⟨⟨cs⟩,e⟩:=by
 rcases r with ⟨h1,_⟩|⟨b,h1,_,h3⟩
 ·exact absurd h1 hc
 ·exact ⟨b,h1,h3⟩
theorem UnitAt.fun1 {h:Hp} {ub gb fb:Nat} {gs fs:List (List Value)} {g:List DeclS} {f:FuncDS} (w:UnitAt h ub ⟨g,[f]⟩ gb gs fb fs) :
 ∃ gA gl gk k A n c b,h.m ub=some ⟨⟨[.slice none 0 0,.slice gA gl gk,.slice (some ⟨fb,0,none⟩) 1 k]⟩,37⟩∧(∃ d:DeclS,d.name=f.name∧h.m fb=some ⟨⟨funcDC d A n c (ptrC b)⟩,53⟩)∧StmtAt h 0 b f.body:=by
 have hl:fs.length=1:=w.fl
 match fs,hl,w with
 | [c],_,w =>
  obtain ⟨A,k,b,d,hn,h3,h4⟩:=w.has 0 c f rfl rfl
  have hm:=w.m
  have hf:=w.f (by simp)
  refine ⟨_,_,_,_,A,f.params.length,k,b,hm,⟨d,hn,?_⟩,h4⟩
  rw [hf,← h3]
  simp
theorem StmtAt.kid1 {h:Hp} {lo b kind pos:Nat} {dc:DeclS} {e:Option ExprS} {s:StmtS} (w:StmtAt h lo b (.mk kind pos dc e [s])) :
 ∃ D d E kb k p,h.m b=some ⟨⟨stmtC kind pos dc D d E (some ⟨kb,0,none⟩) 1 k⟩,49⟩∧h.m kb=some ⟨⟨[ptrC p]⟩,51⟩∧StmtAt h lo p s:=by
 cases w with
 | mk h0 hm hd he hk hl hr =>
  rename_i D d E A c ps
  have hl:ps.length=1:=hl
  match ps,hl,hk,hr with
  | [p],_,hk,hr =>
   obtain ⟨kb,rfl,h2⟩:=hk.one (by simp)
   exact ⟨D,d,E,kb,c,p,hm,h2,hr 0 p s rfl rfl⟩
theorem StmtAt.e1 {h:Hp} {lo b kind pos:Nat} {dc:DeclS} {e:ExprS} {kids:List StmtS} (w:StmtAt h lo b (.mk kind pos dc (some e) kids)) :
 ∃ D d p A n k,h.m b=some ⟨⟨stmtC kind pos dc D d (ptrC p) A n k⟩,49⟩∧ExprAt h lo p e:=by
 cases w with
 | mk h0 hm hd he hk hl hr =>
  rename_i D d E A c ps
  obtain ⟨p,rfl,h2⟩:=he
  exact ⟨D,d,p,A,_,c,hm,h2⟩
theorem ExprAt.top {h:Hp} {lo b op pos:Nat} {text:ByteArray} {tok:TokS} {ty:TypeS} {kids:List ExprS} (w:ExprAt h lo b (.mk op pos text tok ty kids)) :
 ∃ D d A c,∃ ps:List Nat,h.m b=some ⟨⟨exprC op pos text tok ty D d A kids.length c⟩,59⟩∧RowAt h lo 45 A (ps.map ptrC)∧ps.length=kids.length∧(∀ (i p:Nat) (k:ExprS),ps[i]?=some p→kids[i]?=some k→ExprAt h lo p k):=by
 cases w with
 | mk h0 hm hd hk hl hr=>exact ⟨_,_,_,_,_,hm,hk,hl,hr⟩
theorem ExprAt.kid2 {h:Hp} {lo b op pos:Nat} {text:ByteArray} {tok:TokS} {ty:TypeS} {e f:ExprS} (w:ExprAt h lo b (.mk op pos text tok ty [e,f])) :
 ∃ D d kb c p q,h.m b=some ⟨⟨exprC op pos text tok ty D d (some ⟨kb,0,none⟩) 2 c⟩,59⟩∧h.m kb=some ⟨⟨[ptrC p,ptrC q]⟩,45⟩∧ExprAt h lo p e∧ExprAt h lo q f:=by
 obtain ⟨D,d,A,c,ps,hm,hk,hl,hr⟩:=w.top
 have hl:ps.length=2:=hl
 match ps,hl,hk,hr with
 | [p,q],_,hk,hr =>
  obtain ⟨kb,rfl,h2⟩:=hk.one (by simp)
  exact ⟨D,d,kb,c,p,q,hm,h2,hr 0 p e rfl rfl,hr 1 q f rfl rfl⟩
def sFit:List UInt8:=[105,110,116,32,109,97,105,110,40,41,32,123,32,114,101,116,117,114,110,32,49,59,32,125]
def fitB:Bool:=match parseT sFit with
 | some (.ok ⟨_,[⟨_,nm,_,_,.mk _ _ _ _ [.mk 11 _ _ _ _]⟩]⟩)=>eqB nm ⟨#[109,97,105,110]⟩
 | _=>false
set_option maxRecDepth 100000 in
theorem fit_true:fitB=true:=by decide +kernel
theorem fit_parse:∃ gs rt po ps k1 p1 d1 e1 p2 d2 e2 ks,parseT sFit=some (.ok ⟨gs,[⟨rt,⟨#[109,97,105,110]⟩,po,ps,.mk k1 p1 d1 e1 [.mk 11 p2 d2 e2 ks]⟩]⟩):=by
 have h:=fit_true
 unfold fitB at h
 split at h
 ·rename_i gs rt nm po ps k1 p1 d1 e1 p2 d2 e2 ks hq
  have:=eqB_iff.1 h
  subst this
  exact ⟨gs,rt,po,ps,k1,p1,d1,e1,p2,d2,e2,ks,hq⟩
 ·cases h
set_option maxHeartbeats 4000000 in
theorem fit_tf (h:Hp) (hg:G0 h):TF Tryd.prog 6 ⟨[]⟩ h (.bool true) h:=by
 obtain ⟨gs,rt,po,ps,k1,p1,d1,e1,p2,d2,e2,ks,hpt⟩:=fit_parse
 refine TF.exact (fn:=Tryd.f6) (c:=(Tryd.f6.body.getD .skip)) Tryd.func6 (by kernel_rfl) Tryd.ntmps6 (by kernel_rfl) (fun s0=>⟨Nat.le_refl _,by simp,fun i b hb=>⟨s0.dom i b hb,fun u hu=>s0.bd i b hb u hu⟩⟩) fun π s0=>?_
 conv=>arg 2;whnf
 ((with_reducible apply W.seq);repeat (first|refine Yn ?_|refine Y0 ?_|refine Y1 ?_|refine Yo ?_))
 ((with_reducible apply W.seq);repeat (first|((with_reducible apply (RS.callEx (g0:=8)));(iterate 3 exact rfl);intro B1 hB1;refine ⟨_,parse_ex (l:=sFit) (Nat.le_of_ble_eq_true rfl) hpt (hg.up hB1.up),?_⟩;rintro v H1 π1 ⟨⟨ub,gb,gs,fb,fs,rfl,u1⟩,o1⟩ sp1 hle1)|refine Y4 ?_|refine Y2e ?_|refine Y2 ?_|refine Y8 ?_|refine Y0 ?_|refine Y1 ?_|refine Yo ?_))
 obtain ⟨gA,gl,gk,k,A,n,c,b,hum,⟨d,hnm,hfm⟩,hst⟩:=u1.fun1
 dsimp only at hnm hst
 obtain ⟨D,dd,E,kb,kk,p,hsm,hkm,hs2⟩:=hst.kid1
 obtain ⟨D2,dd2,E2,hpm⟩:∃ D2 dd2 E2 A2 n2 k2,H1.m p=some ⟨⟨stmtC 11 p2 d2 D2 dd2 E2 A2 n2 k2⟩,49⟩:=by
  cases hs2 with
  | mk h0 hm hd he hk hl hr=>exact ⟨_,_,_,_,_,_,hm⟩
 obtain ⟨A2,n2,k2,hpm⟩:=hpm
 obtain ⟨dty,dnm,dpos⟩:=d
 dsimp only at hnm
 subst hnm
 repeat (first|((with_reducible apply RS.nePtr);iterate 4 exact rfl)|((with_reducible apply RS.indexAddrS);(iterate 4 exact rfl);exact Int.ofNat_zero.symm;exact Nat.le_of_ble_eq_true rfl)|((with_reducible apply RS.load1B);(iterate 3 exact rfl);first|exact hum;exact sp1.dom _ _ hum;exact rfl|exact hfm;exact sp1.dom _ _ hfm;exact rfl|exact hsm;exact sp1.dom _ _ hsm;exact rfl|exact hkm;exact sp1.dom _ _ hkm;exact rfl|exact hpm;exact sp1.dom _ _ hpm;exact rfl)|refine Y21 ?_|refine Y9 ?_|refine Y6 ?_|refine Yr ?_|refine Y1l ?_|refine Yl ?_|refine Y0 ?_|refine Yx ?_|refine Y1 ?_)
 exact endsK_ret _ (.cons (.tmp rfl) .nil) fun B' a=>⟨rfl,fun i c hi=>a.up _ _ ((o1.2 i (hB1.dom _ _ (hB1.up _ _ hi))).trans (hB1.up _ _ hi))⟩
end Go.Proofs.YtbmmchaaiakanaaDoor
namespace Go.Proofs.YtbmmchaaiakanaaDoor
def sInt:List UInt8:=[105,110,116,32,109,97,105,110,40,41,32,123,32,114,101,116,117,114,110,32]
def sEnd:List UInt8:=[49,59,32,125]
def sMain:List UInt8:=[105,110,116,32,109,97,105,110,40,41,32]
def sFun:List UInt8:=[105,110,116,32,102,40,41,32,123,125]
def sVar:List UInt8:=[105,110,116,32,102,59]
def sPar:List UInt8:=[105,110,116,32,102,40,105,110,116,32,97]
def sArg:List UInt8:=[44,32,105,110,116,32,98]
def sPend:List UInt8:=[41,32,123,125]
def deepL (w m:Nat):List UInt8:=match w with
 | 0=>(sInt++repL [33] (54+m))++sEnd
 | 1=>(sMain++repL [123] (58+m))++repL [125] (58+m)
 | 2=>repL sFun (58+m)
 | 3=>repL sVar (58+m)
 | _=>(sPar++repL sArg (3+m))++sPend
def deepK (w m:Nat):Nat:=if m≤2 then 0 else if w≤1 then 3 else 4
def deepB (w m:Nat):Bool:=kindT (deepL w m) == some (deepK w m)
open Go.AH
attribute [local irreducible] W RS WR
theorem app_list (a b:List UInt8):(⟨⟨a⟩⟩:ByteArray)++(⟨⟨b⟩⟩:ByteArray)=⟨⟨a++b⟩⟩:=by
 apply ByteArray.ext
 rw [ByteArray.data_append]
 exact List.append_toArray a b
section
variable {P:Program} {ops:Array Oper} {draw:Bool} {rs:List Rk} {l:List Oper} {fl:List (Nat × Value)} {nt:Nat} {h:SH} {K:Fr→SH→Prop} {d:Tmp} {ty:TypeId} {pos:String} {af:Array Edge} {gd:Option (Nat × Bool)}
theorem RS.catL [Pend] {t yt:TypeId} {x y:Operand} {a b:List UInt8} (hw:wantB ops ⟨some d,.binOp .add t x y yt,ty,pos,af,gd⟩ ⟨fl,nt⟩=some true) (hd:Nat.blt d nt=true)
 (hx:Fr.ev ⟨fl,nt⟩ x=some (.string ⟨⟨a⟩⟩)) (hy:Fr.ev ⟨fl,nt⟩ y=some (.string ⟨⟨b⟩⟩)) (hs:a.length+b.length≤100000)
 (hk:RS P ops draw (recP h.k false [] (some [])::rs) l ⟨(d,.string ⟨⟨a++b⟩⟩)::fl,nt⟩ h K):RS P ops draw rs (⟨some d,.binOp .add t x y yt,ty,pos,af,gd⟩::l) ⟨fl,nt⟩ h K:=by
 rw [← app_list] at hk
 exact RS.strAdd hw hd hx hy (by show a.length+b.length≤_;omega) hk
end
theorem RS.remV {P:Program} {ops:Array Oper} {draw:Bool} {rs:List Rk} {l:List Oper} {fl:List (Nat × Value)} {nt:Nat} {h:SH} {K:Fr→SH→Prop} {d:Tmp} {ty:TypeId} {pos:String} {af:Array Edge} {gd:Option (Nat × Bool)} [Pend] {t yt:TypeId} {x y:Operand} {k:IntKind} {a b r:Int} (hw:wantB ops ⟨some d,.binOp .rem t x y yt,ty,pos,af,gd⟩ ⟨fl,nt⟩=some true) (hd:Nat.blt d nt=true)
 (hx:Fr.ev ⟨fl,nt⟩ x=some (.int k a)) (hy:Fr.ev ⟨fl,nt⟩ y=some (.int k b)) (hb:b≠0) (hv:a.tmod b=r)
 (hk:RS P ops draw (recP h.k false [] (some [])::rs) l ⟨(d,.int k r)::fl,nt⟩ h K):RS P ops draw rs (⟨some d,.binOp .rem t x y yt,ty,pos,af,gd⟩::l) ⟨fl,nt⟩ h K:=by
 subst hv;exact RS.rem hw hd hx hy hb hk
theorem mod_fit {n:Int} {m:Nat} (hm:0 < m) (hb:m≤1000000):∃ i:Nat,i < m∧(n.tmod m+m).tmod m=(i:Int)∧-9223372036854775808≤n.tmod m+m∧n.tmod m+m≤9223372036854775807:=by
 have h1:(n.tmod m).natAbs < m:=by
  rw [Int.natAbs_tmod];simp;exact Nat.mod_lt _ hm
 obtain ⟨i,hi,he⟩:=idx_mod (n:=n) hm hb
 rw [wrap64_fit (by omega) (by omega)] at he
 exact ⟨i,hi,he,by omega,by omega⟩
end Go.Proofs.YtbmmchaaiakanaaDoor
namespace Go.Proofs.YtbmmchaaiakanaaDoor
def opsL:List (List UInt8):=[[124,124],[38,38],[124],[94],[38],[61,61],[33,61],[60],[62],[60,61],[62,61],[60,60],[62,62],[43],[45],[42],[47],[37]]
def rowsN:List Nat:=[0,1,2,3,4,5,5,6,6,6,6,7,7,8,8,9,9,9]
def sRet:List UInt8:=[105,110,116,32,102,40,41,32,123,32,114,101,116,117,114,110,32,120,32]
def rowsL (a b:Nat):List UInt8:=(((sRet++opsL.getD a [])++[32,121,32])++opsL.getD b [])++[32,122,59,32,125]
def StmtS.kids:StmtS→List StmtS
 | .mk _ _ _ _ k=>k
def StmtS.e:StmtS→Option ExprS
 | .mk _ _ _ e _=>e
def ExprS.is (e:ExprS) (t:UInt8):Bool:=eqB e.text (b1 t)
def rowsE (a b:Nat):ExprS→Bool
 | .mk _ _ _ _ _ [k0,k1]=>if rowsN.getD b 0 > rowsN.getD a 0 then k0.is 120 && (match k1.kids with|[y,_]=>y.is 121|_=>false) else k1.is 122 && (match k0.kids with|[x,_]=>x.is 120|_=>false)
 | _=>false
def rowsB (a b:Nat):Bool:=match parseT (rowsL a b) with
 | some (.ok ⟨_,[⟨_,_,_,_,.mk _ _ _ _ [.mk _ _ _ (some e) _]⟩]⟩)=>rowsE a b e
 | _=>false
def rowsA (a:Nat):Bool:=(List.range 18).all (rowsB a)
set_option maxRecDepth 100000 in
theorem rows0:rowsA 0=true:=by decide +kernel
set_option maxRecDepth 100000 in
theorem rows1:rowsA 1=true:=by decide +kernel
set_option maxRecDepth 100000 in
theorem rows2:rowsA 2=true:=by decide +kernel
set_option maxRecDepth 100000 in
theorem rows3:rowsA 3=true:=by decide +kernel
set_option maxRecDepth 100000 in
theorem rows4:rowsA 4=true:=by decide +kernel
set_option maxRecDepth 100000 in
theorem rows5:rowsA 5=true:=by decide +kernel
set_option maxRecDepth 100000 in
theorem rows6:rowsA 6=true:=by decide +kernel
set_option maxRecDepth 100000 in
theorem rows7:rowsA 7=true:=by decide +kernel
set_option maxRecDepth 100000 in
theorem rows8:rowsA 8=true:=by decide +kernel
set_option maxRecDepth 100000 in
theorem rows9:rowsA 9=true:=by decide +kernel
set_option maxRecDepth 100000 in
theorem rows10:rowsA 10=true:=by decide +kernel
set_option maxRecDepth 100000 in
theorem rows11:rowsA 11=true:=by decide +kernel
set_option maxRecDepth 100000 in
theorem rows12:rowsA 12=true:=by decide +kernel
set_option maxRecDepth 100000 in
theorem rows13:rowsA 13=true:=by decide +kernel
set_option maxRecDepth 100000 in
theorem rows14:rowsA 14=true:=by decide +kernel
set_option maxRecDepth 100000 in
theorem rows15:rowsA 15=true:=by decide +kernel
set_option maxRecDepth 100000 in
theorem rows16:rowsA 16=true:=by decide +kernel
set_option maxRecDepth 100000 in
theorem rows17:rowsA 17=true:=by decide +kernel
theorem rows_law {a b:Nat} (ha:a < 18) (hb:b < 18):rowsB a b=true:=by
 have key:∀ a,rowsA a=true→rowsB a b=true:=fun a h=>List.all_eq_true.1 h b (List.mem_range.2 hb)
 have hc:a=0∨a=1∨a=2∨a=3∨a=4∨a=5∨a=6∨a=7∨a=8∨a=9∨a=10∨a=11∨a=12∨a=13∨a=14∨a=15∨a=16∨a=17:=by omega
 rcases hc with rfl|rfl|rfl|rfl|rfl|rfl|rfl|rfl|rfl|rfl|rfl|rfl|rfl|rfl|rfl|rfl|rfl|rfl
 ·exact key _ rows0
 ·exact key _ rows1
 ·exact key _ rows2
 ·exact key _ rows3
 ·exact key _ rows4
 ·exact key _ rows5
 ·exact key _ rows6
 ·exact key _ rows7
 ·exact key _ rows8
 ·exact key _ rows9
 ·exact key _ rows10
 ·exact key _ rows11
 ·exact key _ rows12
 ·exact key _ rows13
 ·exact key _ rows14
 ·exact key _ rows15
 ·exact key _ rows16
 ·exact key _ rows17
open Go.AH
attribute [local irreducible] W RS WR
theorem rows_parse {a b:Nat} (ha:a < 18) (hb:b < 18):∃ gs rt nm po ps k1 p1 d1 e1 k2 p2 d2 e ks,parseT (rowsL a b)=some (.ok ⟨gs,[⟨rt,nm,po,ps,.mk k1 p1 d1 e1 [.mk k2 p2 d2 (some e) ks]⟩]⟩)∧rowsE a b e=true:=by
 have h:=rows_law ha hb
 unfold rowsB at h
 split at h
 ·rename_i hq
  exact ⟨_,_,_,_,_,_,_,_,_,_,_,_,_,_,hq,h⟩
 ·cases h
theorem rows_kids {a b:Nat} {e:ExprS} (h:rowsE a b e=true):∃ op po t tk ty k0 k1,e=.mk op po t tk ty [k0,k1] ∧
 ((rowsN.getD b 0 > rowsN.getD a 0 ∧ k0.text = b1 120 ∧ ∃ op' po' t' tk' ty' y z, k1 = .mk op' po' t' tk' ty' [y, z] ∧ y.text = b1 121) ∨
  (¬ rowsN.getD b 0 > rowsN.getD a 0∧k1.text=b1 122∧∃ op' po' t' tk' ty' x z,k0=.mk op' po' t' tk' ty' [x,z]∧x.text=b1 120)):=by
 unfold rowsE at h
 split at h
 ·rename_i op po t tk ty k0 k1
  refine ⟨op,po,t,tk,ty,k0,k1,rfl,?_⟩
  split at h
  ·rename_i hc
   simp only [Bool.and_eq_true] at h
   obtain ⟨h1,h2⟩:=h
   refine .inl ⟨hc,eqB_iff.1 h1,?_⟩
   obtain ⟨op',po',t',tk',ty',ks'⟩:=k1
   simp only [ExprS.kids] at h2
   match ks',h2 with
   | [y,z],h2=>exact ⟨op',po',t',tk',ty',y,z,rfl,eqB_iff.1 h2⟩
  ·rename_i hc
   simp only [Bool.and_eq_true] at h
   obtain ⟨h1,h2⟩:=h
   refine .inr ⟨hc,eqB_iff.1 h1,?_⟩
   obtain ⟨op',po',t',tk',ty',ks'⟩:=k0
   simp only [ExprS.kids] at h2
   match ks',h2 with
   | [y,z],h2=>exact ⟨op',po',t',tk',ty',y,z,rfl,eqB_iff.1 h2⟩
 ·cases h
theorem ExprAt.text {h:Hp} {lo b:Nat} {e:ExprS} (w:ExprAt h lo b e):∃ op pos tok ty D d A n c,h.m b=some ⟨⟨exprC op pos e.text tok ty D d A n c⟩,59⟩:=by
 obtain ⟨op,pos,text,tok,ty,kids⟩:=e
 obtain ⟨D,d,A,c,ps,hm,_⟩:=w.top
 exact ⟨_,_,_,_,_,_,_,_,_,hm⟩
def opsV:List Value:=opsL.map fun l=>.string ⟨⟨l⟩⟩
def rowsV:List Value:=rowsN.map fun (n:Nat)=>.int .i64 (n:Int)
theorem ops_at {a:Nat} (h:a < 18):opsV[0+a * 1]?=some (.string ⟨⟨opsL.getD a []⟩⟩):=by
 rw [Nat.zero_add,Nat.mul_one]
 unfold opsV
 have hl:a < opsL.length:=h
 rw [List.getElem?_map,List.getD_eq_getElem?_getD,List.getElem?_eq_getElem hl];rfl
theorem rows_at {a:Nat} (h:a < 18):rowsV[0+a * 1]?=some (.int .i64 ((rowsN.getD a 0:Nat):Int)):=by
 rw [Nat.zero_add,Nat.mul_one]
 unfold rowsV
 have hl:a < rowsN.length:=h
 rw [List.getElem?_map,List.getD_eq_getElem?_getD,List.getElem?_eq_getElem hl];rfl
theorem ops_len {a:Nat} (h:a < 18):(opsL.getD a []).length≤2:=by
 have:opsL.all (fun l=>Nat.ble l.length 2)=true:=by decide +kernel
 have hl:a < opsL.length:=h
 rw [List.getD_eq_getElem?_getD,List.getElem?_eq_getElem hl]
 exact ble_iff.1 (List.all_eq_true.1 this _ (List.getElem_mem hl))
theorem rows_len {a b:Nat} (ha:a < 18) (hb:b < 18):(rowsL a b).length≤16384:=by
 have h1:=ops_len ha
 have h2:=ops_len hb
 simp only [rowsL,List.length_append,sRet,List.length_cons,List.length_nil];omega
theorem pairR_pre {x y:Rk} (xw:x.wb=false) (xe:x.eb=none) (xvl:x.vl=[]) (xk:x.k=x.k') (xww:x.w=[]) (yw:y.wb=false) (ye:y.eb=none) (hk:x.k'≤y.k):pairR x y=true:=by
 have hb:Nat.beq x.k x.k'=true:=by rw [xk];simp
 unfold pairR crossB
 rw [xw,xe,xvl,xww,yw,ye,hb,ble_iff.2 hk]
 have hv:(y.vl.all fun j=>!memL j [] && (Nat.blt j x.k || Nat.ble x.k' j))=true:=by
  rw [List.all_eq_true]
  intro j _
  rw [xk]
  by_cases h:j < x.k'
  ·rw [blt_iff.2 h];simp [memL]
  ·rw [ble_iff.2 (Nat.le_of_not_lt h)];simp [memL]
 rw [hv]
 simp [noneB]
theorem pairR_mk {k':Nat}:pairR (recY 0 k') (recN k' false [] (some [k']) (some []))=true:=by
 unfold pairR crossB recY recN
 simp [noneB,outO,outR]
theorem den_up {P:Program} {B H' B':Hp} {π:Nat→Nat} {k k2:Nat} {l l2:List (Nat × Option Blk)} (hden:(⟨B,π,k,l⟩:SH).den=H') (a:Absb (P:=P) ⟨B,π,k2,l2⟩ B') (hk:k≤k2) (hl:∀ j,j < k→lookB l2 j=lookB l j):∀ i c,H'.m i=some c→B'.m i=some c:=by
 intro i c hc
 subst hden
 simp only [SH.den] at hc
 by_cases hi:i < B.n
 ·rw [if_pos hi] at hc
  exact a.up i c hc
 ·rw [if_neg hi] at hc
  cases hx:idx π k i with
  | none=>rw [hx] at hc;cases hc
  | some j =>
   rw [hx] at hc
   obtain ⟨h1,h2⟩:=idx_some hx
   have:=a.loc j (Nat.lt_of_lt_of_le h1 hk)
   rw [hl j h1] at this
   rw [← h2]
   rw [this];exact hc
set_option maxHeartbeats 4000000 in
set_option maxRecDepth 100000 in
theorem rows_tf (n c:Int) (h:Hp) (hg:G0 h):TF Tryd.prog 4 ⟨[.int .i64 n,.int .i64 c]⟩ h (.bool true) h:=by
 obtain ⟨a,ha,hm,hmb⟩:∃ m:Nat,m < 18∧(n.tmod 18+18).tmod 18=(m:Int)∧-9223372036854775808≤n.tmod 18+18∧n.tmod 18+18≤9223372036854775807:=mod_fit (m:=18) (by decide) (by decide)
 obtain ⟨b,hb,hw,hwb⟩:∃ m:Nat,m < 18∧(c.tmod 18+18).tmod 18=(m:Int)∧-9223372036854775808≤c.tmod 18+18∧c.tmod 18+18≤9223372036854775807:=mod_fit (m:=18) (by decide) (by decide)
 obtain ⟨gs,rt,nm,po,ps,k1,p1,d1,e1,k2,p2,d2,e,ks,hpt,he⟩:=rows_parse ha hb
 have hlen:=rows_len ha hb
 have ha2:=ops_len ha
 have hb2:=ops_len hb
 refine TF.exact (fn:=Tryd.f4) (c:=(Tryd.f4.body.getD .skip)) Tryd.func4 (by kernel_rfl) Tryd.ntmps4 (by kernel_rfl) (fun s0=>⟨Nat.le_refl _,by simp,fun i b hb=>⟨s0.dom i b hb,fun u hu=>s0.bd i b hb u hu⟩⟩) fun π s0=>?_
 conv=>arg 2;whnf
 ((with_reducible apply W.seq);repeat (first|refine Yn ?_|refine Y0 ?_|refine Y1 ?_|refine Yo ?_))
 ((with_reducible apply W.seq);repeat (fail))
 ((with_reducible apply W.seq);repeat (first|((with_reducible apply (RS.callA (g0:=6)));(iterate 3 exact rfl);exact fun B' hB'=>fit_tf B' (hg.up hB'.up))|((with_reducible apply RS.not);iterate 3 exact rfl)|refine Y0 ?_|refine Y1 ?_|refine Y1v ?_|refine Y3 ?_))
 ((with_reducible apply W.seq);repeat (first|refine Ye ?_|refine Yn ?_|refine Y0 ?_|refine Y1 ?_|refine Yo ?_))
 ((with_reducible apply W.seq);repeat (first|refine Ye ?_|refine Yn ?_|refine Y0 ?_|refine Y1 ?_|refine Yo ?_))
 ((with_reducible apply W.seq);repeat (first|((with_reducible apply RS.remV);(iterate 4 exact rfl);first|decide;exact hm|decide;exact hw|decide;exact rfl)|((with_reducible apply RS.binFit);(iterate 5 exact rfl);first|exact hmb|exact hwb)|refine Y4 ?_|refine Y0 ?_|refine Y1 ?_|refine Yo ?_))
 refine W.absorbX fun B π0 a0=>?_
 have hO:B.m (π 0)=some ⟨⟨opsV⟩,9⟩:=a0.loc 0 (Nat.le_of_ble_eq_true rfl)
 have hR:B.m (π 1)=some ⟨⟨rowsV⟩,3⟩:=a0.loc 1 (Nat.le_of_ble_eq_true rfl)
 have hup0:∀ i c,h.m i=some c→B.m i=some c:=a0.up
 have hg0:=hg.up hup0
 have hOn:=a0.dom _ _ hO
 have hRn:=a0.dom _ _ hR
 generalize π 0=ob at *
 generalize π 1=wb at *
 ((with_reducible apply W.seq);repeat (first|refine Y2v ?_|((with_reducible apply RS.load1B);(iterate 3 exact rfl);exact hO;exact hOn;(first|exact ops_at ha|exact ops_at hb))|((with_reducible apply RS.catL);(iterate 4 exact rfl);(simp only [List.length_append,List.length_cons,List.length_nil];omega))|((with_reducible apply (RS.callY (g0:=8)));(iterate 4 exact rfl);intro B5 he5 hB5;refine ⟨_,parse_ex (l:=rowsL a b) hlen hpt (hg0.up hB5.up),(fun v H' hq i hi=>hq.2.2 i (Nat.lt_of_lt_of_le hi hB5.le)),?_⟩;rintro v H5 k5 l5 ⟨⟨ub,gb,gs',fb,fs,rfl,u5⟩,o5⟩ s5 hle5 hden5 hwf5 hk5)|((with_reducible apply (RS.store (i:=k5) (cs:=[.int .i64 0,.int .i64 0]) (cs':=[.int .i64 0,.int .i64 0])));(iterate 3 exact rfl);exact blt_iff.2 (Nat.lt_succ_self _);exact (look_cons _ _ _).trans (if_pos rfl);exact Nat.le_of_ble_eq_true rfl;iterate 3 exact rfl)|((with_reducible apply (RS.nilP mixed [(0,1),(5,6),(4,6),(3,6),(2,6),(1,6),(0,6),(6,7),(5,7),(4,7),(3,7),(2,7),(1,7),(0,7),(5,8),(4,8),(3,8),(2,8),(1,8),(0,8),(5,9),(4,9),(3,9),(2,9),(1,9),(0,9),(14,15),(15,16),(14,16),(13,16),(12,16),(11,16),(10,16),(9,16),(8,16),(7,16),(6,16),(5,16),(4,16),(3,16),(2,16),(1,16),(0,16),(15,17)]));kernel_rfl;(repeat (refine ⟨fun x y hx hy=>(by obtain rfl:=Option.some.inj hx;obtain rfl:=Option.some.inj hy;(first|exact pairR_pre rfl rfl rfl rfl rfl rfl rfl (by simp only [recY,recP,recN];omega)|exact pairR_mk)),?_⟩));exact trivial;exact rfl)|refine Y4 ?_|refine Y2e ?_|refine Y8 ?_|refine Y1 ?_|refine Yo ?_))
 refine W.absorbX fun C π2 a2=>?_
 have hup5:∀ i c,H5.m i=some c→C.m i=some c:=den_up hden5 a2 (Nat.le_succ _) fun j hj=>by
  rw [look_cons,if_neg (by omega),look_cons,if_neg (by omega)]
 have hF:C.m (π0 k5)=some ⟨⟨[.int .i64 0,.int .i64 0]⟩,27⟩:=(a2.loc k5 (Nat.lt_succ_self _)).trans ((look_cons _ _ _).trans (if_pos rfl))
 have hupA:∀ i c,B.m i=some c→C.m i=some c:=a2.up
 have uC:=u5.kept fun i c hc _=>hup5 i c hc
 have hRC:=hupA _ _ hR
 have hdC:=a2.dom
 have hupH:∀ i c,h.m i=some c→C.m i=some c:=fun i c hi=>hupA i c (hup0 i c hi)
 have hFn:=hdC _ _ hF
 have hRn:=hdC _ _ hRC
 clear hup5 hup0 a0 a2 he5 hB5 o5 u5 s5 hle5 hden5 hwf5 hk5 hR hO hOn hg0 hg hupA
 obtain ⟨gA,gl,gk,k,A,n',c',bb,hum,⟨dd,hnm,hfm⟩,hst⟩:=uC.fun1
 dsimp only at hnm hst
 obtain ⟨D,dd',E,kb,kk,p,hsm,hkm,hs2⟩:=hst.kid1
 obtain ⟨D2,dd2,pe,A2,n2,k2',hpm,hex⟩:=hs2.e1
 obtain ⟨op,epo,et,etk,ety,x0,x1,rfl,hkids⟩:=rows_kids he
 obtain ⟨D3,d3,kb3,c3,q0,q1,hem,hekm,hx0,hx1⟩:=hex.kid2
 have hun:=hdC _ _ hum
 have hfn:=hdC _ _ hfm
 have hsn:=hdC _ _ hsm
 have hkn:=hdC _ _ hkm
 have hpn:=hdC _ _ hpm
 have hen:=hdC _ _ hem
 have hekn:=hdC _ _ hekm
 rcases hkids with ⟨hgt,ht0,op',po',t',tk',ty',y,z,rfl,hty⟩|⟨hgt,ht1,op',po',t',tk',ty',x,z,rfl,htx⟩
 ·obtain ⟨_,_,_,_,_,_,_,_,_,hx0m⟩:=hx0.text
  rw [ht0] at hx0m
  obtain ⟨D4,d4,kb4,c4,q2,q3,hx1m,hx1k,hy,_⟩:=hx1.kid2
  obtain ⟨_,_,_,_,_,_,_,_,_,hym⟩:=hy.text
  rw [hty] at hym
  have hx0n:=hdC _ _ hx0m
  have hx1n:=hdC _ _ hx1m
  have hx1kn:=hdC _ _ hx1k
  have hyn:=hdC _ _ hym
  repeat (first|((with_reducible apply RS.eqPtrNil);iterate 4 exact rfl)|refine Y2g ?_|refine Y15 ?_|refine Y2v ?_|refine Y31 ?_|((with_reducible apply (RS.nilP mixed [(0,1),(3,4),(2,4),(1,4),(0,4),(4,5),(3,5),(2,5),(1,5),(0,5),(3,6),(2,6),(1,6),(0,6),(3,7),(2,7),(1,7),(0,7)]));kernel_rfl;(repeat (refine ⟨fun x y hx hy=>(by obtain rfl:=Option.some.inj hx;obtain rfl:=Option.some.inj hy;exact pairR_pre rfl rfl rfl rfl rfl rfl rfl (Nat.le_refl _)),?_⟩));exact trivial;exact rfl)|((with_reducible apply RS.load1B);(iterate 3 exact rfl);first|exact hx0m;exact hx0n;exact rfl|exact hx1m;exact hx1n;exact rfl|exact hx1k;exact hx1kn;exact rfl|exact hym;exact hyn;exact rfl)|refine Y21 ?_|refine Y9 ?_|refine Yc ?_|refine Y6 ?_|refine Y7 ?_|refine Yr ?_|refine Y1l ?_|refine Y0 ?_|refine Y1b ?_|refine Y1 ?_|refine Y5 ?_|refine Y3 ?_)
  exact endsK_ret _ (.cons (.tmp rfl) .nil) fun B' a=>⟨rfl,fun i c hi=>a.up _ _ (hupH i c hi)⟩
 ·obtain ⟨_,_,_,_,_,_,_,_,_,hx1m⟩:=hx1.text
  rw [ht1] at hx1m
  obtain ⟨D4,d4,kb4,c4,q2,q3,hx0m,hx0k,hy,_⟩:=hx0.kid2
  obtain ⟨_,_,_,_,_,_,_,_,_,hym⟩:=hy.text
  rw [htx] at hym
  have hx0n:=hdC _ _ hx0m
  have hx1n:=hdC _ _ hx1m
  have hx0kn:=hdC _ _ hx0k
  have hyn:=hdC _ _ hym
  repeat (first|((with_reducible apply RS.eqPtrNil);iterate 4 exact rfl)|refine Y2g ?_|refine Y15 ?_|refine Y2v ?_|refine Y31 ?_|((with_reducible apply (RS.nilP mixed [(0,1),(3,4),(2,4),(1,4),(0,4),(4,5),(3,5),(2,5),(1,5),(0,5),(3,6),(2,6),(1,6),(0,6),(3,7),(2,7),(1,7),(0,7)]));kernel_rfl;(repeat (refine ⟨fun x y hx hy=>(by obtain rfl:=Option.some.inj hx;obtain rfl:=Option.some.inj hy;exact pairR_pre rfl rfl rfl rfl rfl rfl rfl (Nat.le_refl _)),?_⟩));exact trivial;exact rfl)|((with_reducible apply RS.load1B);(iterate 3 exact rfl);first|exact hx0m;exact hx0n;exact rfl|exact hx1m;exact hx1n;exact rfl|exact hx0k;exact hx0kn;exact rfl|exact hym;exact hyn;exact rfl)|refine Y21 ?_|refine Y9 ?_|refine Yc ?_|refine Y6 ?_|refine Y7 ?_|refine Yr ?_|refine Y1l ?_|refine Y0 ?_|refine Y16 ?_|refine Y1 ?_|refine Y3 ?_)
  exact endsK_ret _ (.cons (.tmp rfl) .nil) fun B' a=>⟨rfl,fun i c hi=>a.up _ _ (hupH i c hi)⟩
end Go.Proofs.YtbmmchaaiakanaaDoor
namespace Go.Proofs.YtbmmchaaiakanaaDoor
open Go.AH Go.ChangeShapes Go.WideShapes Go.ChangeAt Go.RowKit
variable {H:Type} {enc:TypeId × Value→H} {W:World} {G:Nat} {g0:Nat→Option Blk}
theorem trodAll_below {P:Program} (hl:laidOutB P=true) {W W':World} (hb:Below W.heap.size W W'):∀ {ts:List TypeId} {vs:List Value} {ds:List (DataW H)} {ps:List MemPlace},(∀ t∈ts,P.readableRec t=true∧t < P.types.size)→(∀ x∈ps,x.block < W.heap.size)→DataW.TrodAll enc P W 0 (fun _=>true) true ts vs ds ps→DataW.TrodAll enc P W' 0 (fun b=>decide (b < W.heap.size)) true ts vs ds ps:=by
 intro ts
 induction ts with
 | nil =>
  intro vs ds ps _ _ h
  cases vs with
  | nil=>cases ds with
   | nil=>exact h
   | cons d ds=>exact h.elim
  | cons v vs=>exact h.elim
 | cons t ts ih =>
  intro vs ds ps ht hx h
  cases vs with
  | nil=>exact h.elim
  | cons v vs =>
   cases ds with
   | nil=>exact h.elim
   | cons d ds =>
    obtain ⟨p,q,h1,h2,rfl⟩:=h
    exact ⟨p,q,Below.trod hl (ht t (by simp)).1 (ht t (by simp)).2 h1 hb fun x hx'=>hx x (by simp [hx']),ih (fun t ht'=>ht t (by simp [ht'])) (fun x hx'=>hx x (by simp [hx'])) h2,rfl⟩
theorem Tryd.own:ownKnob Tryd.prog.godebug=none:=by kernel_rfl
theorem Tryd.laidOut:laidOutB Tryd.prog=true:=by kernel_rfl
theorem shutB {P:Program} {W:World} {base:Nat} {sp:Nat→Bool} {held:Bool} {t:TypeId} {b:Bool} (ht:P.underlying t=some .bool):DataW.Trod enc P W base sp held t (.bool b) (.lit (.bool b)) []:=⟨1,by simp [DataW.trod,Value.cells,ht]⟩
end Go.Proofs.YtbmmchaaiakanaaDoor
namespace Go.Proofs.YtbmmchaaiakanaaDoor
open Go Go.AH Go.RowKit
def pLaid : List (String × DataW Unit) := [("unicode.White_Space", Rows.laid_unicode_White_Space), ("strings.asciiSpace", Rows.laid_strings_asciiSpace)]
theorem gSpace : Tryd.prog.globalNamed "strings.asciiSpace" = some 0 := by kernel_rfl
theorem tSpace:(Tryd.prog.globals[0]?).map (·.type)=some 103:=by kernel_rfl
theorem laid_space:(Rows.laid_strings_asciiSpace:DataW Unit)=Lib.tabData .u8 Lib.asciiSpaceTab:=by kernel_rfl
theorem cellsSpace:Tryd.prog.cellsOf 103=256:=by kernel_rfl
theorem cellsU8:Tryd.prog.cellsOf 5=1:=by kernel_rfl
theorem tab_space:Lib.asciiSpaceTab.map (Value.int .u8)=spaceV:=by kernel_rfl
theorem rowSpace:∃ z,((begin Tryd.prog (fun _ _=>0) default).world.heap[0]?).bind Obj.row?=some (z,103):=by
 have h:(((begin Tryd.prog (fun _ _=>0) default).world.heap[0]?).bind Obj.row?).map Prod.snd=some 103:=by kernel_rfl
 obtain ⟨⟨z,t⟩,h1,h2⟩:=Option.map_eq_some_iff.1 h
 simp only at h2
 subst h2
 exact ⟨z,h1⟩
theorem rowMax:((begin Tryd.prog (fun _ _=>0) default).world.heap[1]?).bind Obj.row?=some (#[.int .i64 0],3):=by kernel_rfl
theorem gsizeP:Tryd.prog.globals.size=4:=by kernel_rfl
set_option maxRecDepth 100000 in
theorem p_tab {W : World} (h : laidMetH Tryd.prog pLaid W) : W.var? Tryd.prog "strings.asciiSpace" = some spaceV.toArray := by
 rw [MakeChecks.laidMetH_plain _ _ _ (by kernel_rfl)] at h
 obtain ⟨ps,⟨_,_,_,_,_,_,_,_,_,_,⟨g2,t2,c2,f2,p2,q2,hg2,ht2,hv2,hd2,_,_⟩,_⟩,_⟩:=h
 obtain rfl:=Option.some.inj (gSpace.symm.trans hg2)
 obtain rfl:=Option.some.inj (tSpace.symm.trans ht2)
 rw [laid_space] at hd2
 have e2:=Lib.cells_of_tab Tryd.underlying103 Tryd.underlying5 cellsU8 cellsSpace hd2
 rw [hv2,← tab_space,← e2]
theorem p_start {W:World} (hsh:W.ShapedOpen Tryd.prog) (hL:laidMetH Tryd.prog pLaid W):∃ g0:Nat→Option Blk,(∀ i b,i < Tryd.prog.globals.size→g0 i=some b→(∃ (tail:Array Value) (fr:Nat × Nat),W.heap[i]?=some (.cells (b.cells++tail) b.elem fr))∧∀ v∈b.cells,bnd 0 v)∧∀ ws,G0 (hpW Tryd.prog.globals.size g0 ws):=by
 obtain ⟨z0,h0⟩:=rowSpace
 obtain ⟨c0,hh0,_,_⟩:=hsh.1 _ z0 _ (by rw [gsizeP];decide) h0
 obtain ⟨ds,hd,hds,_⟩:=hsh.1 _ _ _ (by rw [gsizeP];decide) rowMax
 obtain ⟨m,hm⟩:=cell_of_shapedOpen_int hsh (by rw [gsizeP];decide) rowMax rfl (by kernel_rfl) (by kernel_rfl) Tryd.underlying3
 have hn:=p_tab hL
 have e0:c0=spaceV.toArray:=by
  unfold World.var? at hn
  rw [gSpace] at hn
  simpa only [Option.bind_some,hh0,Option.some.injEq] using hn
 have hdv:ds=⟨[.int .i64 m]⟩:=by
  have h1:ds.size=1:=hds
  obtain ⟨l⟩:=ds
  match l,h1 with
  | [v],_ =>
   simp only [World.cell?,hd] at hm
   simp at hm
   rw [hm]
 refine ⟨fun i=>if i=0 then some ⟨⟨spaceV⟩,103⟩ else if i=1 then some ⟨⟨[.int .i64 m]⟩,3⟩ else none,fun i b hi hb=>?_,fun ws=>⟨⟨m,?_⟩,?_⟩⟩
 ·dsimp only at hb
  by_cases q0:i=0
  ·rw [if_pos q0] at hb
   injection hb with hb
   subst hb
   refine ⟨⟨#[],_,by rw [q0,hh0,e0,Array.append_empty]⟩,fun v hv=>?_⟩
   have hv:v∈spaceV:=by simpa using hv
   obtain ⟨s,_,rfl⟩:=List.mem_map.1 hv
   simp
  ·rw [if_neg q0] at hb
   by_cases q1:i=1
   ·rw [if_pos q1] at hb
    injection hb with hb
    subst hb
    refine ⟨⟨#[],_,by rw [q1,hd,hdv,Array.append_empty]⟩,fun v hv=>?_⟩
    have hv:v=.int .i64 m:=by simpa using hv
    rw [hv];simp
   ·rw [if_neg q1] at hb;cases hb
 ·simp [hpW,gsizeP]
 ·simp [hpW,gsizeP]
theorem p_door (os:Os) (args:Array Value):laidMetH Tryd.prog pLaid ((World.doorLaid Tryd.prog 4000 os).forCall (fun _ _=>0) ⟨#[],args,[]⟩).memory :=
 laidMetH_of_parts3 (fuel:=8) (laidMet_of_run' 8 (by kernel_rfl) (by kernel_rfl)) (by kernel_rfl) (by kernel_rfl)
end Go.Proofs.YtbmmchaaiakanaaDoor
namespace Go.Proofs.YtbmmchaaiakanaaDoor
open Go Go.AH Go.ChangeShapes Go.WideShapes Go.ChangeAt Go.RowKit
set_option maxRecDepth 100000 in
theorem parseRows_lifted (os:Os) (started:os.Started) (H:Type) (enc:TypeId × Value→H) :
 ReturnsInHanded {} Tryd.checked os 4 .any (fun w args=>(Rows.parseRowsSpec.pre enc Tryd.prog Tryd.f4 [] false w args∧laidMetH Tryd.prog pLaid w)∧sizedMet enc Tryd.prog Tryd.f4 (OpenSpec.ofChange Rows.parseRowsSpec) false w args)
  (Rows.parseRowsSpec.post enc Tryd.prog Tryd.f4 false true false false):=by
 refine handed_and_shaped (C:=Tryd.checked) (X:=fun w _=>laidMetH Tryd.prog pLaid w) (fun _ _ _ hh h=>h.of_heap hh) Tryd.own started (by kernel_rfl) Tryd.func4
  (ChangeSpec.witness_shaped (enc:=enc) (C:=Tryd.checked) (os:=os) (X:=fun w _=>laidMetH Tryd.prog pLaid w) false (World.doorLaid Tryd.prog 4000 os) #[.int .i64 0,.int .i64 0] 8 rfl (World.shaped_of_RefB (by kernel_rfl) (by kernel_rfl)) (by kernel_rfl) (by kernel_rfl) (by kernel_rfl) (p_door os _)) ?_
 intro W base args ds gs before hval0 hW _ hwt0 hL hsh _
 have hval:∀ (j:Nat) t v,Tryd.f4.params[j]?=some t→args[j]?=some v→Value.okWide Tryd.prog W .any base t v:=hval0
 have hW':DataW.Whole enc Tryd.prog Tryd.f4.params.toList Rows.parseRowsSpec.vars false W args.toList ds gs before:=hW
 obtain ⟨p,q,hA0,hV,hbe,hfz,hnd⟩:=hW
 have hA:DataW.TrodAll enc Tryd.prog W 0 (fun _=>true) true Tryd.f4.params.toList args.toList ds p:=hA0
 have hpar:Tryd.f4.params=#[3,3]:=by kernel_rfl
 have hA1:=hA
 rw [hpar] at hA1 hval
 obtain ⟨v0,v1,d0,d1,p0,p1,rfl,rfl,rfl,h0,h1⟩:=trodAll_two hA1
 obtain ⟨rfl,rfl⟩:=trodVars_none hV
 obtain ⟨n,rfl,_,_,_⟩:=open_int Tryd.underlying3 (hval 0 3 v0 rfl rfl) h0
 obtain ⟨m,rfl,_,_,_⟩:=open_int Tryd.underlying3 (hval 1 3 v1 rfl rfl) h1
 obtain ⟨g0,hg0,hgt⟩:=p_start hsh hL
 have hlay:Lay Tryd.prog.globals.size W []:=⟨fun i w b h=>by simp at h,fun i w b h=>by simp at h⟩
 have hG:Tryd.prog.globals.size+([]:List Win).length≤rwM:=Nat.le_of_ble_eq_true (by kernel_rfl)
 have ht:=rows_tf n m (hpW Tryd.prog.globals.size g0 []) (hgt [])
 have hh:=TF.below ht (fun i b h=>h) (by
  intro x hx
  have hx:x=Value.int .i64 n∨x=.int .i64 m:=by simpa using hx
  rcases hx with rfl|rfl<;>simp) (Lay.hok hlay hG hg0)
 have hargs:(⟨[.int .i64 n,.int .i64 m]⟩:Array Value).map (ren (envW Tryd.prog.globals.size []))=#[.int .i64 n,.int .i64 m]:=by
  simp only [List.map_toArray,List.map_cons,List.map_nil,ren_int]
 rw [hargs] at hh
 refine hh.mono fun e W' ⟨⟨ρ',he⟩,hb⟩=>?_
 have hres:DataW.TrodAll enc Tryd.prog W' W.heap.size (fun _=>false) false [4] [.bool true] [.lit (.bool true)] []:=trodAll_mk1 (shutB (by kernel_rfl))
 refine ⟨.bool true,by simpa using he,[d0,d1],[],before,[],p0++p1,[],hW',hres,?_,rfl,Below.frame hb _,fun h=>by cases h⟩
 refine trodAll_below Tryd.laidOut hb (ts:=Tryd.f4.params.toList) (fun t ht=>?_) (fun x hx=>hW'.lt x (by rw [hbe,List.append_nil];exact hx)) hA
 rw [hpar] at ht
 have ht:t=3:=by simpa using ht
 subst ht
 exact ⟨by kernel_rfl,of_decide_eq_true (by kernel_rfl)⟩
theorem parseRows_holds:Rows.ParseRowsSaid :=
 OpenClaim.holds_of_wide 4 Tryd.f4 rfl rfl rfl rfl rfl rfl rfl ⟨rfl,rfl,rfl,rfl,rfl⟩ rfl rfl rfl rfl rfl (by kernel_rfl) Tryd.func4 (by kernel_rfl)
  (of_decide_eq_true (by kernel_rfl)) (by unfold Func.isWrapper;rw [if_neg (by decide +kernel)];exact ⟨rfl,rfl⟩)
  (fun os started H enc _=>parseRows_lifted os started H enc)
theorem parseRows_card:Rows.ParseRowsCardSaid :=
 Claim7.holds_tied_plain_at .later [] [.listed, .data] true (true, "fbe29d2f2233dbc968bf1a5a798026bbfd66cca11189f7ddcb0e09bd08db5363") false
  parseRows_holds (fun _ h=>by cases h) (by kernel_rfl) (fun _ h=>by cases h) parseRows_row_tie rfl ⟨rfl,rfl⟩ (by kernel_rfl) rfl
  (fun f fn hf hfn=>by
   obtain rfl:f=4:=Option.some.inj ((show Tryd.prog.funcNamed Rows.parseRowsRow.func=some 4 by kernel_rfl).symm.trans hf) |>.symm
   obtain rfl:fn=Tryd.f4:=(Option.some.inj (Tryd.func4.symm.trans hfn)).symm
   exact ⟨by kernel_rfl,fun j t ht=>by
    rw [show Tryd.f4.params=#[3,3] by kernel_rfl] at ht
    have h3:t=3:=by
     rcases j with _|_|j
     ·simpa using ht.symm
     ·simpa using ht.symm
     ·simp at ht
    subst h3
    exact (show Tryd.prog.wantsStandIn 3=false by kernel_rfl)⟩)
  (by kernel_rfl)
#print axioms parseRows_card
end Go.Proofs.YtbmmchaaiakanaaDoor
