/-
  What the functions that the law reaches compute,told by plain data;it holds of programs that pass the check of right form and are light.
-/
import Derived.Test.YtbmmchaaiakanaaDoorR2
import Derived.Test.YtbmmchaaiakanaaDoorR3
import Derived.Test.YtbmmchaaiakanaaDoorR6
import Derived.Test.YtbmmchaaiakanaaDoorS1
import Derived.Test.YtbmmchaaiakanaaDoorS2
set_option linter.unusedVariables false
set_option linter.unusedSimpArgs false
namespace Go.Proofs.YtbmmchaaiakanaaDoor
theorem tl_get {s:ByteArray} {p:Nat}:tl s p=s.data.toList.drop p:=by
 unfold tl
 rw [Lib.extract_data]
 simp [List.take_of_length_le]
theorem at_cons {s:ByteArray} {p:Nat} {c:UInt8} {r:List UInt8} (h:tl s p=c::r):p < s.size∧chr s p=(c.toNat:Int)∧tl s (p+1)=r:=by
 rw [tl_get] at h
 have hlt:p < s.data.toList.length:=by
  rcases Nat.lt_or_ge p s.data.toList.length with h1|h1
  ·exact h1
  ·rw [List.drop_eq_nil_of_le h1] at h;cases h
 rw [List.drop_eq_getElem_cons hlt] at h
 injection h with h1 h2
 have hs:p < s.size:=by simpa using hlt
 refine ⟨hs,?_,by rw [tl_get];exact h2⟩
 rw [chr_lt hs,← h1];rfl
theorem at_nil {s:ByteArray} {p:Nat} (h:tl s p=[]):s.size≤p:=by
 rw [tl_get] at h
 have:=List.drop_eq_nil_iff.1 h
 simpa using this
theorem tl_app {s:ByteArray}:∀ (a b:List UInt8) (p:Nat),tl s p=a++b→tl s (p+a.length)=b:=by
 intro a
 induction a with
 | nil=>intro b p h;exact h
 | cons c a ih =>
  intro b p h
  have h1:=(at_cons (show tl s p=c::(a++b) from h)).2.2
  have:=ih b (p+1) h1
  rw [show p+(c::a).length=p+1+a.length by simp;omega];exact this
theorem tl_ext {s:ByteArray} {p:Nat} {a b:List UInt8} (h:tl s p=a++b):s.extract p (p+a.length)=⟨⟨a⟩⟩:=by
 have h0:(s.extract p (p+a.length)).data.toList=a:=by
  rw [Lib.extract_data]
  rw [tl_get] at h
  rw [h,show p+a.length - p=a.length by omega,List.take_left]
 cases he:s.extract p (p+a.length) with
 | mk d =>
  rw [he] at h0
  cases d with
  | mk l=>simp at h0;rw [h0]
theorem blank_here {s:ByteArray} {p:Nat} (hp:p < s.size) (h1:blankI (chr s p)=false) (h2:¬ (chr s p=47∧(chr s (p+1)=47∨chr s (p+1)=42))):blankS s p=(p,true):=by
 unfold blankS
 rw [show s.size - p=(s.size - (p+1))+1 by omega,blankF2,if_neg (by rw [h1];decide),if_neg (fun h=>h2 ⟨h.1,.inl h.2⟩),if_neg (fun h=>h2 ⟨h.1,.inr h.2⟩)]
theorem blank_step {s:ByteArray} {p:Nat} (hp:p < s.size) (h1:blankI (chr s p)=true):blankS s p=blankS s (p+1):=by
 unfold blankS
 rw [show s.size - p=(s.size - (p+1))+1 by omega,blankF2,if_pos h1]
def takeW:List UInt8→List UInt8
 | []=>[]
 | c::r=>if wordyI (ic c)=true then c::takeW r else []
def dropW:List UInt8→List UInt8
 | []=>[]
 | c::r=>if wordyI (ic c)=true then dropW r else c::r
theorem takeW_app:∀ l,takeW l++dropW l=l
 | []=>rfl
 | c::r=>by
  unfold takeW dropW
  split
  ·rw [List.cons_append,takeW_app r]
  ·rfl
theorem wordE_take {s:ByteArray}:∀ (l:List UInt8) (p:Nat),tl s p=l→wordE s p=p+(takeW l).length
 | [],p,h=>by
  have:=at_nil h
  rw [wordE_end (by rw [chr_ge (by omega)];decide)];rfl
 | c::r,p,h=>by
  obtain ⟨h1,h2,h3⟩:=at_cons h
  unfold takeW
  by_cases hw:wordyI (ic c)=true
  ·rw [if_pos hw,wordE_step (by rw [h2];exact hw),wordE_take r (p+1) h3]
   simp only [List.length_cons];omega
  ·rw [if_neg hw,wordE_end (by rw [h2];exact hw)];rfl
def numV:List UInt8→Nat→Option Nat
 | [],v=>some v
 | c::r,v=>if digitI (ic c)=true∧¬ (18446744073709551615 - (c.toNat - 48)) / 10 < v then numV r (v * 10+(c.toNat - 48)) else none
theorem digit_val {c:UInt8} (h:digitI (ic c)=true):valN (ic c)=c.toNat - 48∧c.toNat - 48 < 10∧wordyI (ic c)=true:=by
 have h0:=h
 unfold digitI ic at h
 simp only [Bool.and_eq_true,decide_eq_true_eq] at h
 refine ⟨?_,by omega,by unfold wordyI;rw [h0];simp⟩
 unfold valN valueI
 rw [if_pos h0]
 unfold ic;omega
theorem numL_take {s:ByteArray}:∀ (w b:List UInt8) (e v x:Nat),tl s e=w++b→(∀ c r,b=c::r→wordyI (ic c)=false)→numV w v=some x→numL s 10 (s.size - e) e v=some (x,e+w.length)
 | [],b,e,v,x,h,hb,hx=>by
  simp only [numV,Option.some.injEq] at hx
  subst hx
  by_cases he:e < s.size
  ·rw [numL_step he]
   match b,h,hb with
   | [],h,_=>have:=at_nil h;omega
   | c::r,h,hb =>
    have h2:=(at_cons h).2.1
    rw [if_neg (fun hc=>by rw [h2] at hc;have:=hb c r rfl;unfold ic at this;rw [this] at hc;exact absurd hc.1 (by decide))];rfl
  ·rw [numL_end he];rfl
 | c::w,b,e,v,x,h,hb,hx=>by
  obtain ⟨h1,h2,h3⟩:=at_cons (show tl s e=c::(w++b) from h)
  simp only [numV] at hx
  split at hx
  ·rename_i hc
   obtain ⟨d1,d2,d3⟩:=digit_val hc.1
   have e2:chr s e=ic c:=h2
   rw [numL_step h1,e2,if_pos ⟨d3,by omega⟩,d1,if_neg hc.2,numL_take w b (e+1) _ x h3 hb hx]
   simp only [List.length_cons];congr 2;omega
  ·cases hx
def headW (b:List UInt8):Bool:=match b with
 | []=>false
 | c::_=>wordyI (ic c)
theorem dropW_head:∀ l,headW (dropW l)=false
 | []=>rfl
 | c::r=>by
  unfold dropW
  split
  ·exact dropW_head r
  ·rename_i h;unfold headW;simpa using h
theorem number_take {s:ByteArray} {p:Nat} {w b:List UInt8} {x:Nat} (h:tl s p=w++b) (hb:headW b=false) (hx:numV w 0=some x) (hne:w≠[]):numberS s p=(⟨3,⟨⟨w⟩⟩,p,x,false,false⟩,true):=by
 have hb':∀ c r,b=c::r→wordyI (ic c)=false:=fun c r e=>by subst e;exact hb
 have hn:=numL_take w b p 0 x h hb' hx
 have hend:=tl_app w b p h
 have hnw:wordyI (chr s (p+w.length))=false:=by
  match b,hend,hb with
  | [],hend,_=>rw [chr_ge (by have:=at_nil hend;omega)];decide
  | c::r,hend,hb=>rw [(at_cons hend).2.1];exact hb
 have hu:(chr s (p+w.length) == 117)=false:=by
  rw [beq_eq_false_iff_ne];intro e;rw [e] at hnw;exact absurd hnw (by decide)
 have hl:(chr s (p+w.length) == 108)=false:=by
  rw [beq_eq_false_iff_ne];intro e;rw [e] at hnw;exact absurd hnw (by decide)
 have hhex:numHex s p=false:=by
  match w,hne,h,hx with
  | c::w',_,h,hx =>
   obtain ⟨h1,h2,h3⟩:=at_cons (show tl s p=c::(w'++b) from h)
   unfold numHex
   rw [Bool.and_eq_false_iff]
   match w',h3,hx with
   | d::w'',h3,hx =>
    right
    rw [(at_cons (show tl s (p+1)=d::(w''++b) from h3)).2.1,beq_eq_false_iff_ne]
    intro e
    simp only [numV] at hx
    split at hx
    ·rename_i hc
     obtain ⟨d1,d2,_⟩:=digit_val hc.1
     have:=hc.1
     split at hx
     ·rename_i hc2
      have:=hc2.1
      unfold digitI ic at this
      simp only [Bool.and_eq_true,decide_eq_true_eq] at this
      omega
     ·cases hx
    ·cases hx
   | [],h3,hx =>
    right
    match b,h3,hb with
    | [],h3,_=>rw [chr_ge (by have:=at_nil (show tl s (p+1)=[] from h3);omega)];decide
    | d::r,h3,hb =>
     rw [(at_cons (show tl s (p+1)=d::r from h3)).2.1,beq_eq_false_iff_ne]
     intro e
     have:wordyI (ic d)=false:=hb
     unfold ic at this
     rw [e] at this
     exact absurd this (by decide)
 unfold numberS
 rw [if_neg (by rw [hhex];decide)]
 unfold numberR
 rw [hn]
 dsimp only
 rw [if_neg (by cases w with|nil=>exact absurd rfl hne|cons c w=>simp)]
 unfold numTail
 simp only [hu,hl,Bool.false_eq_true,if_false,hnw]
 rw [tl_ext h];rfl
def slashB (l:List UInt8):Bool:=match l with
 | 47::47::_=>true
 | 47::42::_=>true
 | _=>false
def scanL:Nat→Nat→List UInt8→Option (List TokS)
 | 0,_,_=>none
 | n+1,p,[]=>some [endTok p]
 | n+1,p,c::r =>
  if blankI (ic c)=true then scanL n (p+1) r
  else if slashB (c::r)=true then none
  else if letterI (ic c)=true then
   (if (takeW (c::r)).length≤40 then (scanL n (p+(takeW (c::r)).length) (dropW (c::r))).map fun l=>⟨if isWord ⟨⟨takeW (c::r)⟩⟩=true then 2 else 1,⟨⟨takeW (c::r)⟩⟩,p,0,false,false⟩::l else none)
  else if digitI (ic c)=true then
   (match numV (takeW (c::r)) 0 with
   | some x=>(scanL n (p+(takeW (c::r)).length) (dropW (c::r))).map fun l=>⟨3,⟨⟨takeW (c::r)⟩⟩,p,x,false,false⟩::l
   | none=>none)
  else if c.toNat=39 then none
  else match signList.find? (fun x=>Lib.hasPrefix (c::r) x) with
   | some x=>(scanL n (p+x.length) ((c::r).drop x.length)).map fun l=>⟨4,⟨⟨x⟩⟩,p,0,false,false⟩::l
   | none=>none
theorem sign_len:signList.all (fun x=>Nat.ble 1 x.length)=true:=by kernel_rfl
theorem scanF_at {s:ByteArray} {n p q:Nat} {out:List TokS} (h:blankS s p=blankS s q):scanF s n p out=scanF s n q out∨n=0:=by
 cases n with
 | zero=>exact .inr rfl
 | succ n=>left;rw [scanF,scanF,h]
theorem scanL_ok {s:ByteArray}:∀ (n p:Nat) (ts:List TokS),p≤s.size→scanL n p (tl s p)=some ts→∀ m out,s.size - p < m→scanF s m p out=.ok (out++ts):=by
 intro n
 induction n with
 | zero=>intro p ts _ h;cases h
 | succ n ih =>
  intro p ts hp h m out hm
  obtain ⟨m,rfl⟩:∃ m',m=m'+1:=⟨m - 1,by omega⟩
  cases hl:tl s p with
  | nil =>
   rw [hl] at h
   simp only [scanL,Option.some.injEq] at h
   subst h
   have hpe:p=s.size:=by have:=at_nil hl;omega
   rw [scanF]
   have hb:blankS s p=(p,true):=by unfold blankS;exact blankF2_end (by omega)
   rw [hb]
   dsimp only
   rw [if_pos hpe]
  | cons c r =>
   rw [hl] at h
   obtain ⟨h1,h2,h3⟩:=at_cons hl
   have e2:chr s p=ic c:=h2
   simp only [scanL] at h
   by_cases hbl:blankI (ic c)=true
   ·rw [if_pos hbl] at h
    rcases scanF_at (n:=m+1) (out:=out) (blank_step h1 (by rw [e2];exact hbl)) with e|e
    ·rw [e];exact ih (p+1) ts (by omega) (by rw [h3];exact h) (m+1) out (by omega)
    ·omega
   ·rw [if_neg hbl] at h
    by_cases hsl:slashB (c::r)=true
    ·rw [if_pos hsl] at h;cases h
    ·rw [if_neg hsl] at h
     have hb:blankS s p=(p,true):=by
      refine blank_here h1 (by rw [e2];simpa using hbl) ?_
      rintro ⟨hc,hd⟩
      apply hsl
      have hc47:c=47:=by
       have:(c.toNat:Int)=47:=by rw [← h2];exact hc
       exact UInt8.toNat_inj.1 (by show c.toNat=47;omega)
      subst hc47
      cases hr:r with
      | nil=>rw [hr] at h3;rw [chr_ge (by have:=at_nil h3;omega)] at hd;rcases hd with hd|hd<;>exact absurd hd (by decide)
      | cons d r' =>
       rw [hr] at h3
       have hd2:=(at_cons h3).2.1
       rw [hd2] at hd
       rcases hd with hd|hd
       ·obtain rfl:d=47:=UInt8.toNat_inj.1 (by show d.toNat=47;omega)
        rfl
       ·obtain rfl:d=42:=UInt8.toNat_inj.1 (by show d.toNat=42;omega)
        rfl
     have key:∀ (t:TokS) (l:List TokS) (b:List UInt8),oneS s p=(t,true)→1≤t.text.size→p+t.text.size≤s.size→tl s (p+t.text.size)=b→scanL n (p+t.text.size) b=some l→ts=t::l→scanF s (m+1) p out=.ok (out++ts):=by
      intro t l b ho ht1 ht2 hb2 hsc hts
      rw [scanF,hb]
      dsimp only
      rw [if_neg (by omega),ho]
      dsimp only
      rw [ih (p+t.text.size) l ht2 (by rw [hb2];exact hsc) m _ (by omega),hts]
      simp
     have hword:=takeW_app (c::r)
     have htl:tl s p=takeW (c::r)++dropW (c::r):=by rw [hword];exact hl
     have hsz:∀ a:List UInt8,(⟨⟨a⟩⟩:ByteArray).size=a.length:=fun a=>rfl
     have hple:∀ a b:List UInt8,tl s p=a++b→p+a.length≤s.size:=fun a b e=>by
      have:=congrArg List.length e
      rw [tl_get] at this
      simp at this;omega
     by_cases hlt:letterI (ic c)=true
     ·rw [if_pos hlt] at h
      split at h
      ·rename_i h40
       obtain ⟨l,hl1,hl2⟩:=Option.map_eq_some_iff.1 h
       have hw1:1≤(takeW (c::r)).length:=by
        unfold takeW
        rw [if_pos (by unfold wordyI;rw [hlt];rfl)]
        simp
       have hE:=wordE_take (c::r) p hl
       refine key ⟨if isWord ⟨⟨takeW (c::r)⟩⟩=true then 2 else 1,⟨⟨takeW (c::r)⟩⟩,p,0,false,false⟩ l (dropW (c::r)) ?_ hw1 (hple _ _ htl) (tl_app _ _ p htl) hl1 hl2.symm
       unfold oneS
       rw [e2,if_pos hlt,hE,tl_ext htl,decide_eq_true (by omega)]
      ·cases h
     ·rw [if_neg hlt] at h
      by_cases hdg:digitI (ic c)=true
      ·rw [if_pos hdg] at h
       cases hnv:numV (takeW (c::r)) 0 with
       | none=>rw [hnv] at h;cases h
       | some x =>
        rw [hnv] at h
        obtain ⟨l,hl1,hl2⟩:=Option.map_eq_some_iff.1 h
        have hw1:1≤(takeW (c::r)).length:=by
         unfold takeW
         rw [if_pos (digit_val hdg).2.2]
         simp
        refine key ⟨3,⟨⟨takeW (c::r)⟩⟩,p,x,false,false⟩ l (dropW (c::r)) ?_ hw1 (hple _ _ htl) (tl_app _ _ p htl) hl1 hl2.symm
        unfold oneS
        rw [e2,if_neg hlt,if_pos hdg]
        exact number_take htl (dropW_head _) hnv (fun e=>by rw [e] at hw1;simp at hw1)
      ·rw [if_neg hdg] at h
       by_cases h39:c.toNat=39
       ·rw [if_pos h39] at h;cases h
       ·rw [if_neg h39] at h
        cases hf:signList.find? (fun x=>Lib.hasPrefix (c::r) x) with
        | none=>rw [hf] at h;cases h
        | some x =>
         rw [hf] at h
         obtain ⟨l,hl1,hl2⟩:=Option.map_eq_some_iff.1 h
         have hx1:1≤x.length:=by
          have:=List.all_eq_true.1 sign_len x (List.mem_of_find?_eq_some hf)
          simpa using this
         have hpre:x <+: (c::r):=by
          have:=List.find?_some hf
          unfold Lib.hasPrefix at this
          simpa using this
         obtain ⟨b,hxb⟩:=hpre
         have htl2:tl s p=x++b:=by rw [hxb];exact hl
         refine key ⟨4,⟨⟨x⟩⟩,p,0,false,false⟩ l b ?_ hx1 (hple _ _ htl2) (tl_app _ _ p htl2) (by rw [← hxb,List.drop_left] at hl1;exact hl1) hl2.symm
         unfold oneS
         have h39':¬ ic c=39:=by unfold ic;omega
         rw [e2,if_neg hlt,if_neg hdg,if_neg h39']
         have:signList.find? (signAt s p)=some x:=by
          rw [← hf]
          congr 1
          funext y
          unfold signAt
          rw [hl]
         rw [this]
theorem scan_list {l:List UInt8} {n:Nat} {ts:List TokS} (hl:l.length≤16384) (h:scanL n 0 l=some ts):scanS ⟨⟨l⟩⟩=.ok ts:=by
 have hs:(⟨⟨l⟩⟩:ByteArray).size=l.length:=rfl
 unfold scanS
 rw [if_neg (by omega)]
 have ht:tl ⟨⟨l⟩⟩ 0=l:=by rw [tl_get];rfl
 have:=scanL_ok (s:=⟨⟨l⟩⟩) n 0 ts (Nat.zero_le _) (by rw [ht];exact h) ((⟨⟨l⟩⟩:ByteArray).size+1) [] (by omega)
 simpa using this
end Go.Proofs.YtbmmchaaiakanaaDoor
namespace Go.Proofs.YtbmmchaaiakanaaDoor
def repL (s:List UInt8):Nat→List UInt8
 | 0=>[]
 | k+1=>repL s k++s
def chunk:Nat→List TokS→List (List TokS)
 | 0,_=>[]
 | n+1,l=>l.take 16::chunk n (l.drop 16)
def chunkG (c:List (List TokS)) (k i:Nat):TokS:=(c.getD (min i k / 16) []).getD (min i k % 16) zeroTok
theorem chunk_get:∀ (n:Nat) (l:List TokS) (i:Nat),l.length≤16 * n→((chunk n l).getD (i / 16) []).getD (i % 16) zeroTok=l.getD i zeroTok:=by
 intro n
 induction n with
 | zero =>
  intro l i h
  have:l=[]:=List.eq_nil_of_length_eq_zero (by omega)
  subst this;rfl
 | succ n ih =>
  intro l i h
  rw [chunk]
  by_cases hi:i < 16
  ·rw [show i / 16=0 by omega,show i % 16=i by omega]
   simp only [List.getD_eq_getElem?_getD,List.getElem?_cons_zero,Option.getD_some,List.getElem?_take,if_pos hi]
  ·obtain ⟨j,rfl⟩:∃ j,i=j+16:=⟨i - 16,by omega⟩
   rw [show (j+16) / 16=j / 16+1 by omega,show (j+16) % 16=j % 16 by omega]
   have:=ih (l.drop 16) j (by simp;omega)
   simp only [List.getD_eq_getElem?_getD,List.getElem?_cons_succ] at this ⊢
   rw [this,List.getElem?_drop,Nat.add_comm]
def parseL (L:List TokS):Option (Except (Nat × Nat) UnitS):=parseU 1000 (chunkG (chunk 64 L) (L.length - 1))
theorem parseL_eq {L:List TokS} (h:L.length≤1024):parseL L=parseU 1000 (tokN L):=by
 unfold parseL
 congr 1
 funext i
 unfold chunkG tokN
 exact chunk_get 64 L _ (by omega)
def parseT (l:List UInt8):Option (Except (Nat × Nat) UnitS):=(scanL 1000 0 l).bind parseL
def kindT (l:List UInt8):Option Nat:=(parseT l).map fun r=>match r with
 | .error p=>p.1
 | .ok _=>0
def ExprS.text:ExprS→ByteArray
 | .mk _ _ t _ _ _=>t
def ExprS.kids:ExprS→List ExprS
 | .mk _ _ _ _ _ k=>k
open Go.AH
def G0 (h:Hp):Prop:=(∃ m,h.m 1=some ⟨⟨[.int .i64 m]⟩,3⟩)∧h.m 0=some ⟨⟨spaceV⟩,103⟩
theorem G0.up {h H:Hp} (g:G0 h) (hu:∀ i c,h.m i=some c→H.m i=some c):G0 H:=by
 obtain ⟨⟨m,h1⟩,h2⟩:=g
 exact ⟨⟨m,hu _ _ h1⟩,hu _ _ h2⟩
theorem G0.both {h:Hp} (g:G0 h):GL h∧GS h:=by
 obtain ⟨⟨m,h1⟩,h2⟩:=g
 exact ⟨⟨m,_,h1⟩,⟨_,h2⟩⟩
theorem scanL_len:∀ {n p:Nat} {l:List UInt8} {ts:List TokS},scanL n p l=some ts→0 < ts.length∧ts.length≤n:=by
 intro n
 induction n with
 | zero=>intro p l ts h;cases l<;>cases h
 | succ n ih =>
  intro p l ts h
  have key:∀ {q:Nat} {r:List UInt8} {t:TokS},(scanL n q r).map (fun x=>t::x)=some ts→0 < ts.length∧ts.length≤n+1:=by
   intro q r t he
   obtain ⟨x,hx,rfl⟩:=Option.map_eq_some_iff.1 he
   have:=ih hx
   simp only [List.length_cons];omega
  cases l with
  | nil=>simp only [scanL,Option.some.injEq] at h;subst h;simp
  | cons c r =>
   unfold scanL at h
   split at h
   ·have:=ih h;omega
   split at h
   ·cases h
   split at h
   ·split at h
    ·exact key h
    ·cases h
   split at h
   ·split at h
    ·exact key h
    ·cases h
   split at h
   ·cases h
   split at h
   ·exact key h
   ·cases h
theorem parseT_iff {l:List UInt8} {r:Except (Nat × Nat) UnitS} (h:parseT l=some r):∃ L,scanL 1000 0 l=some L∧ToksOK L∧parseU 1000 (tokN L)=some r:=by
 unfold parseT at h
 obtain ⟨L,h1,h2⟩:=Option.bind_eq_some_iff.1 h
 obtain ⟨k1,k2⟩:=scanL_len h1
 rw [parseL_eq (by omega)] at h2
 exact ⟨L,h1,⟨k1,by omega⟩,h2⟩
theorem scan_ex {l:List UInt8} {L:List TokS} (hl:l.length≤16384) (h1:scanL 1000 0 l=some L) {B:Hp} (g:G0 B) (s:Sat Tryd.prog B):EX Tryd.prog 9 [.string ⟨⟨l⟩⟩] B (ScanQ L B):=by
 have ht:=scan_tf ⟨⟨l⟩⟩ B g.both
 rw [scan_list hl h1] at ht
 refine ht.ex.mono ?_
 rintro v h' _ ⟨rfl,rfl⟩
 refine ⟨B.n,_,rfl,?_,Nat.le_succ _,fun i hi=>?_⟩
 ·show (if B.n=B.n then _ else _)=_
  rw [if_pos rfl]
 ·show (if i=B.n then _ else _)=_
  rw [if_neg (by omega)]
theorem parse_ex {l:List UInt8} {r:Except (Nat × Nat) UnitS} (hl:l.length≤16384) (h:parseT l=some r) {B:Hp} (g:G0 B):EX Tryd.prog 8 [.string ⟨⟨l⟩⟩] B (fun v h'=>ParseQ r v h'∧Old B h'):=by
 intro s hb
 obtain ⟨L,h1,h2,h3⟩:=parseT_iff h
 have hdom:∀ i b,B.m i=some b→i < B.n:=by obtain ⟨ρ,W,ho⟩:=s;exact ho.lt
 let k:Nat→Bool:=fun i=>decide (i < B.n) && !(i == 1 || i == 0)
 have hg:G0 (B.hide k):=by
  obtain ⟨⟨m,h4⟩,h5⟩:=g
  exact ⟨⟨m,hide_some.2 ⟨by simp [k],h4⟩⟩,hide_some.2 ⟨by simp [k],h5⟩⟩
 have hp:=parse_ok (h:=B.hide k) (src:=⟨⟨l⟩⟩) h2 h3 fun B' hu s hb=>scan_ex hl h1 (hg.up hu) s s hb
 refine (EX.mono (EX.frame k (fun i hi=>by simp [k] at hi;exact hi.1) hp) ?_) s hb
 rintro v h' s ⟨h6,hq,rfl,hn,hup⟩
 obtain ⟨q1,q2⟩:=hq
 refine ⟨?_,hn,fun i hi=>?_⟩
 ·cases r with
  | error e=>exact q1
  | ok u =>
   obtain ⟨ub,gb,gs,fb,fs,e1,e2⟩:=q1
   exact ⟨ub,gb,gs,fb,fs,e1,e2.kept fun i c hc _=>hup i c hc⟩
 ·cases hk:k i with
  | true=>exact back_hid hk
  | false =>
   have hc:i=1∨i=0:=by
    simp only [k,Bool.and_eq_false_iff,decide_eq_false_iff_not,Bool.not_eq_false',Bool.or_eq_true,beq_iff_eq] at hk
    rcases hk with h|h
    ·exact absurd hi h
    ·exact h
   obtain ⟨⟨m,h4⟩,h5⟩:=hg
   rw [back_not hk]
   rcases hc with rfl|rfl
   ·rw [q2 _ _ h4 rfl];exact (hide_some.1 h4).2.symm
   ·rw [q2 _ _ h5 rfl];exact (hide_some.1 h5).2.symm
attribute [local irreducible] W RS WR
section
variable {P:Program} {ops:Array Oper} {draw:Bool} {rs:List Rk} {l:List Oper} {fl:List (Nat × Value)} {nt:Nat} {h:SH} {K:Fr→SH→Prop} {d:Tmp} {ty:TypeId} {pos:String} {af:Array Edge} {gd:Option (Nat × Bool)}
theorem RS.nePtr [Pend] {t e yt:TypeId} {x y:Operand} {A:Option Addr} [hu:TyU P t (.pointer e)] (hw:wantB ops ⟨some d,.binOp .neq t x y yt,ty,pos,af,gd⟩ ⟨fl,nt⟩=some true) (hd:Nat.blt d nt=true)
 (hx:Fr.ev ⟨fl,nt⟩ x=some (.pointer A)) (hy:Fr.ev ⟨fl,nt⟩ y=some (.pointer none))
 (hk:RS P ops draw (recP h.k false [] (some [])::rs) l ⟨(d,.bool (!A.isNone))::fl,nt⟩ h K):RS P ops draw rs (⟨some d,.binOp .neq t x y yt,ty,pos,af,gd⟩::l) ⟨fl,nt⟩ h K :=
 RS.free hw hd (fun a g H=>by
  have:=TX.eqPtrNil (P:=P) (o:=⟨some d,.binOp .neq t x y yt,ty,pos,af,gd⟩) (ev:=a.eval) (h:=H) (op:=.neq) rfl rfl hu.eq (g.ev hx) (g.ev hy)
  simpa using this) (by simp) hk
end
theorem RowAt.one {h:Hp} {lo:Nat} {e:TypeId} {A:Option Addr} {cs:List Value} (r:RowAt h lo e A cs) (hc:cs≠[]):∃ b,A=some ⟨b,0,none⟩∧h.m b=some ⟨⟨cs⟩,e⟩:=by
 rcases r with ⟨h1,_⟩|⟨b,h1,_,h3⟩
 ·exact absurd h1 hc
 ·exact ⟨b,h1,h3⟩
theorem UnitAt.fun1 {h:Hp} {ub gb fb:Nat} {gs fs:List (List Value)} {g:List DeclS} {f:FuncDS} (w:UnitAt h ub ⟨g,[f]⟩ gb gs fb fs) :
 ∃ gA gl gk k A n c b,h.m ub=some ⟨⟨[.slice none 0 0,.slice gA gl gk,.slice (some ⟨fb,0,none⟩) 1 k]⟩,37⟩∧(∃ d:DeclS,d.name=f.name∧h.m fb=some ⟨⟨funcDC d A n c (ptrC b)⟩,53⟩)∧StmtAt h 0 b f.body:=by
 have hl:fs.length=1:=w.fl
 match fs,hl,w with
 | [c],_,w =>
  obtain ⟨A,k,b,d,hn,h3,h4⟩:=w.has 0 c f rfl rfl
  have hm:=w.m
  have hf:=w.f (by simp)
  refine ⟨_,_,_,_,A,f.params.length,k,b,hm,⟨d,hn,?_⟩,h4⟩
  rw [hf,← h3]
  simp
theorem StmtAt.kid1 {h:Hp} {lo b kind pos:Nat} {dc:DeclS} {e:Option ExprS} {s:StmtS} (w:StmtAt h lo b (.mk kind pos dc e [s])) :
 ∃ D d E kb k p,h.m b=some ⟨⟨stmtC kind pos dc D d E (some ⟨kb,0,none⟩) 1 k⟩,49⟩∧h.m kb=some ⟨⟨[ptrC p]⟩,51⟩∧StmtAt h lo p s:=by
 cases w with
 | mk h0 hm hd he hk hl hr =>
  rename_i D d E A c ps
  have hl:ps.length=1:=hl
  match ps,hl,hk,hr with
  | [p],_,hk,hr =>
   obtain ⟨kb,rfl,h2⟩:=hk.one (by simp)
   exact ⟨D,d,E,kb,c,p,hm,h2,hr 0 p s rfl rfl⟩
theorem StmtAt.e1 {h:Hp} {lo b kind pos:Nat} {dc:DeclS} {e:ExprS} {kids:List StmtS} (w:StmtAt h lo b (.mk kind pos dc (some e) kids)) :
 ∃ D d p A n k,h.m b=some ⟨⟨stmtC kind pos dc D d (ptrC p) A n k⟩,49⟩∧ExprAt h lo p e:=by
 cases w with
 | mk h0 hm hd he hk hl hr =>
  rename_i D d E A c ps
  obtain ⟨p,rfl,h2⟩:=he
  exact ⟨D,d,p,A,_,c,hm,h2⟩
theorem ExprAt.top {h:Hp} {lo b op pos:Nat} {text:ByteArray} {tok:TokS} {ty:TypeS} {kids:List ExprS} (w:ExprAt h lo b (.mk op pos text tok ty kids)) :
 ∃ D d A c,∃ ps:List Nat,h.m b=some ⟨⟨exprC op pos text tok ty D d A kids.length c⟩,59⟩∧RowAt h lo 45 A (ps.map ptrC)∧ps.length=kids.length∧(∀ (i p:Nat) (k:ExprS),ps[i]?=some p→kids[i]?=some k→ExprAt h lo p k):=by
 cases w with
 | mk h0 hm hd hk hl hr=>exact ⟨_,_,_,_,_,hm,hk,hl,hr⟩
theorem ExprAt.kid1 {h:Hp} {lo b op pos:Nat} {text:ByteArray} {tok:TokS} {ty:TypeS} {e:ExprS} (w:ExprAt h lo b (.mk op pos text tok ty [e])) :
 ∃ D d kb c p,h.m b=some ⟨⟨exprC op pos text tok ty D d (some ⟨kb,0,none⟩) 1 c⟩,59⟩∧h.m kb=some ⟨⟨[ptrC p]⟩,45⟩∧ExprAt h lo p e:=by
 obtain ⟨D,d,A,c,ps,hm,hk,hl,hr⟩:=w.top
 have hl:ps.length=1:=hl
 match ps,hl,hk,hr with
 | [p],_,hk,hr =>
  obtain ⟨kb,rfl,h2⟩:=hk.one (by simp)
  exact ⟨D,d,kb,c,p,hm,h2,hr 0 p e rfl rfl⟩
def sFit:List UInt8:=[105,110,116,32,109,97,105,110,40,41,32,123,32,114,101,116,117,114,110,32,49,59,32,125]
def fitB:Bool:=match parseT sFit with
 | some (.ok ⟨_,[⟨_,nm,_,_,.mk _ _ _ _ [.mk 11 _ _ _ _]⟩]⟩)=>eqB nm ⟨#[109,97,105,110]⟩
 | _=>false
set_option maxRecDepth 100000 in
theorem fit_true:fitB=true:=by decide +kernel
theorem fit_parse:∃ gs rt po ps k1 p1 d1 e1 p2 d2 e2 ks,parseT sFit=some (.ok ⟨gs,[⟨rt,⟨#[109,97,105,110]⟩,po,ps,.mk k1 p1 d1 e1 [.mk 11 p2 d2 e2 ks]⟩]⟩):=by
 have h:=fit_true
 unfold fitB at h
 split at h
 ·rename_i gs rt nm po ps k1 p1 d1 e1 p2 d2 e2 ks hq
  have:=eqB_iff.1 h
  subst this
  exact ⟨gs,rt,po,ps,k1,p1,d1,e1,p2,d2,e2,ks,hq⟩
 ·cases h
set_option maxHeartbeats 4000000 in
theorem fit_tf (h:Hp) (hg:G0 h):TF Tryd.prog 6 ⟨[]⟩ h (.bool true) h:=by
 obtain ⟨gs,rt,po,ps,k1,p1,d1,e1,p2,d2,e2,ks,hpt⟩:=fit_parse
 refine TF.exact (fn:=Tryd.f6) (c:=(Tryd.f6.body.getD .skip)) Tryd.func6 (by kernel_rfl) Tryd.ntmps6 (by kernel_rfl) (fun s0=>⟨Nat.le_refl _,by simp,fun i b hb=>⟨s0.dom i b hb,fun u hu=>s0.bd i b hb u hu⟩⟩) fun π s0=>?_
 conv=>arg 2;whnf
 ((with_reducible apply W.seq);repeat (first|refine Ys ?_|refine Y0 ?_|refine Y1 ?_|refine Ym ?_))
 ((with_reducible apply W.seq);repeat (first|((with_reducible apply (RS.callEx (g0:=8)));(iterate 3 exact rfl);intro B1 hB1;refine ⟨_,parse_ex (l:=sFit) (Nat.le_of_ble_eq_true rfl) hpt (hg.up hB1.up),?_⟩;rintro v H1 π1 ⟨⟨ub,gb,gs,fb,fs,rfl,u1⟩,o1⟩ sp1 hle1)|refine Y4 ?_|refine Y2d ?_|refine Y2 ?_|refine Y8 ?_|refine Y0 ?_|refine Y1 ?_|refine Ym ?_))
 obtain ⟨gA,gl,gk,k,A,n,c,b,hum,⟨d,hnm,hfm⟩,hst⟩:=u1.fun1
 dsimp only at hnm hst
 obtain ⟨D,dd,E,kb,kk,p,hsm,hkm,hs2⟩:=hst.kid1
 obtain ⟨D2,dd2,E2,hpm⟩:∃ D2 dd2 E2 A2 n2 k2,H1.m p=some ⟨⟨stmtC 11 p2 d2 D2 dd2 E2 A2 n2 k2⟩,49⟩:=by
  cases hs2 with
  | mk h0 hm hd he hk hl hr=>exact ⟨_,_,_,_,_,_,hm⟩
 obtain ⟨A2,n2,k2,hpm⟩:=hpm
 obtain ⟨dty,dnm,dpos⟩:=d
 dsimp only at hnm
 subst hnm
 repeat (first|((with_reducible apply RS.nePtr);iterate 4 exact rfl)|((with_reducible apply RS.indexAddrS);(iterate 4 exact rfl);exact Int.ofNat_zero.symm;exact Nat.le_of_ble_eq_true rfl)|((with_reducible apply RS.load1B);(iterate 3 exact rfl);first|exact hum;exact sp1.dom _ _ hum;exact rfl|exact hfm;exact sp1.dom _ _ hfm;exact rfl|exact hsm;exact sp1.dom _ _ hsm;exact rfl|exact hkm;exact sp1.dom _ _ hkm;exact rfl|exact hpm;exact sp1.dom _ _ hpm;exact rfl)|refine Y2v ?_|refine Yb ?_|refine Y6 ?_|refine Yu ?_|refine Y20 ?_|refine Yl ?_|refine Y0 ?_|refine Yz ?_|refine Y1 ?_)
 exact endsK_ret _ (.cons (.tmp rfl) .nil) fun B' a=>⟨rfl,fun i c hi=>a.up _ _ ((o1.2 i (hB1.dom _ _ (hB1.up _ _ hi))).trans (hB1.up _ _ hi))⟩
end Go.Proofs.YtbmmchaaiakanaaDoor
namespace Go.Proofs.YtbmmchaaiakanaaDoor
def sInt:List UInt8:=[105,110,116,32,109,97,105,110,40,41,32,123,32,114,101,116,117,114,110,32]
def sEnd:List UInt8:=[49,59,32,125]
def sMain:List UInt8:=[105,110,116,32,109,97,105,110,40,41,32]
def sFun:List UInt8:=[105,110,116,32,102,40,41,32,123,125]
def sVar:List UInt8:=[105,110,116,32,102,59]
def sPar:List UInt8:=[105,110,116,32,102,40,105,110,116,32,97]
def sArg:List UInt8:=[44,32,105,110,116,32,98]
def sPend:List UInt8:=[41,32,123,125]
def deepL (w m:Nat):List UInt8:=match w with
 | 0=>(sInt++repL [33] (54+m))++sEnd
 | 1=>(sMain++repL [123] (58+m))++repL [125] (58+m)
 | 2=>repL sFun (58+m)
 | 3=>repL sVar (58+m)
 | _=>(sPar++repL sArg (3+m))++sPend
def deepK (w m:Nat):Nat:=if m≤2 then 0 else if w≤1 then 3 else 4
def deepB (w m:Nat):Bool:=kindT (deepL w m) == some (deepK w m)
open Go.AH
attribute [local irreducible] W RS WR
theorem app_list (a b:List UInt8):(⟨⟨a⟩⟩:ByteArray)++(⟨⟨b⟩⟩:ByteArray)=⟨⟨a++b⟩⟩:=by
 apply ByteArray.ext
 rw [ByteArray.data_append]
 exact List.append_toArray a b
section
variable {P:Program} {ops:Array Oper} {draw:Bool} {rs:List Rk} {l:List Oper} {fl:List (Nat × Value)} {nt:Nat} {h:SH} {K:Fr→SH→Prop} {d:Tmp} {ty:TypeId} {pos:String} {af:Array Edge} {gd:Option (Nat × Bool)}
theorem RS.catL [Pend] {t yt:TypeId} {x y:Operand} {a b:List UInt8} (hw:wantB ops ⟨some d,.binOp .add t x y yt,ty,pos,af,gd⟩ ⟨fl,nt⟩=some true) (hd:Nat.blt d nt=true)
 (hx:Fr.ev ⟨fl,nt⟩ x=some (.string ⟨⟨a⟩⟩)) (hy:Fr.ev ⟨fl,nt⟩ y=some (.string ⟨⟨b⟩⟩)) (hs:a.length+b.length≤100000)
 (hk:RS P ops draw (recP h.k false [] (some [])::rs) l ⟨(d,.string ⟨⟨a++b⟩⟩)::fl,nt⟩ h K):RS P ops draw rs (⟨some d,.binOp .add t x y yt,ty,pos,af,gd⟩::l) ⟨fl,nt⟩ h K:=by
 rw [← app_list] at hk
 exact RS.strAdd hw hd hx hy (by show a.length+b.length≤_;omega) hk
end
theorem repL_len (l:List UInt8) (n:Nat):(repL l n).length=n * l.length:=by
 induction n with
 | zero=>simp [repL]
 | succ n ih=>rw [repL,List.length_append,ih,Nat.succ_mul]
set_option maxHeartbeats 4000000 in
theorem rep_tf (s:List UInt8) (n:Nat) (hn:n * s.length≤50000) (h0:n≤1000) (h:Hp):TF Tryd.prog 7 ⟨[.string ⟨⟨s⟩⟩,.int .i64 (n:Int)]⟩ h (.string ⟨⟨repL s n⟩⟩) h:=by
 refine TF.still (fn:=Tryd.f7) (c:=(Tryd.f7.body.getD .skip)) Tryd.func7 (by kernel_rfl) Tryd.ntmps7 (by kernel_rfl) (by simp) ?_
 conv=>arg 2;whnf
 repeat (first|refine Y4 ?_|refine Y0 ?_|refine Y1n ?_|refine Y1 ?_)
 refine W.loop (X:=Nat) (fun π k=>[(0,.string ⟨⟨s⟩⟩),(5,.string ⟨⟨repL s k⟩⟩),(6,.int .i64 (n:Int)),(7,.int .i64 (k:Int))]) (fun _=>h) (fun π _=>[]) (fun k=>k≤n) (fun k=>n - k) [] 0 (Nat.zero_le _) (by (refine FitL.mk ?_ ?_ ?_ ?_<;>(repeat' (first|exact trivial|exact rfl|apply And.intro));done)) ?_
 intro π k hk
 by_cases hlt:k < n
 ·have hcat:(repL s k).length+s.length≤100000:=by
   rw [repL_len,← Nat.succ_mul]
   show (k+1) * s.length≤_
   have:(k+1) * s.length≤n * s.length:=Nat.mul_le_mul_right _ hlt
   omega
  repeat (first|((with_reducible apply RS.catL);(iterate 4 exact rfl);exact hcat)|refine Y4 ?_|refine Y6 ?_|refine Ye ?_|refine Y0 ?_|refine Yx ?_|refine Y1 ?_|refine Y5 ?_)
  exact roundK_n (k+1) [] rfl rfl hlt (by omega) (by (refine FitL.mk ?_ ?_ ?_ ?_<;>(repeat' (first|exact trivial|exact rfl|apply And.intro));done))
 ·obtain rfl:k=n:=by omega
  repeat (first|refine Y4 ?_|refine Y7 ?_|refine Y0 ?_|refine Y2i ?_|refine Y1 ?_|refine Y3 ?_|refine Yf ?_)
  exact endsK_ret _ (.cons (.tmp rfl) .nil) ⟨rfl,rfl⟩
theorem RS.remV {P:Program} {ops:Array Oper} {draw:Bool} {rs:List Rk} {l:List Oper} {fl:List (Nat × Value)} {nt:Nat} {h:SH} {K:Fr→SH→Prop} {d:Tmp} {ty:TypeId} {pos:String} {af:Array Edge} {gd:Option (Nat × Bool)} [Pend] {t yt:TypeId} {x y:Operand} {k:IntKind} {a b r:Int} (hw:wantB ops ⟨some d,.binOp .rem t x y yt,ty,pos,af,gd⟩ ⟨fl,nt⟩=some true) (hd:Nat.blt d nt=true)
 (hx:Fr.ev ⟨fl,nt⟩ x=some (.int k a)) (hy:Fr.ev ⟨fl,nt⟩ y=some (.int k b)) (hb:b≠0) (hv:a.tmod b=r)
 (hk:RS P ops draw (recP h.k false [] (some [])::rs) l ⟨(d,.int k r)::fl,nt⟩ h K):RS P ops draw rs (⟨some d,.binOp .rem t x y yt,ty,pos,af,gd⟩::l) ⟨fl,nt⟩ h K:=by
 subst hv;exact RS.rem hw hd hx hy hb hk
theorem mod_fit {n:Int} {m:Nat} (hm:0 < m) (hb:m≤1000000):∃ i:Nat,i < m∧(n.tmod m+m).tmod m=(i:Int)∧-9223372036854775808≤n.tmod m+m∧n.tmod m+m≤9223372036854775807:=by
 have h1:(n.tmod m).natAbs < m:=by
  rw [Int.natAbs_tmod];simp;exact Nat.mod_lt _ hm
 obtain ⟨i,hi,he⟩:=idx_mod (n:=n) hm hb
 rw [wrap64_fit (by omega) (by omega)] at he
 exact ⟨i,hi,he,by omega,by omega⟩
end Go.Proofs.YtbmmchaaiakanaaDoor
namespace Go.Proofs.YtbmmchaaiakanaaDoor
def opsL:List (List UInt8):=[[124,124],[38,38],[124],[94],[38],[61,61],[33,61],[60],[62],[60,61],[62,61],[60,60],[62,62],[43],[45],[42],[47],[37]]
def rowsN:List Nat:=[0,1,2,3,4,5,5,6,6,6,6,7,7,8,8,9,9,9]
def sRet:List UInt8:=[105,110,116,32,102,40,41,32,123,32,114,101,116,117,114,110,32,120,32]
def rowsL (a b:Nat):List UInt8:=(((sRet++opsL.getD a [])++[32,121,32])++opsL.getD b [])++[32,122,59,32,125]
def StmtS.kids:StmtS→List StmtS
 | .mk _ _ _ _ k=>k
def StmtS.e:StmtS→Option ExprS
 | .mk _ _ _ e _=>e
def ExprS.is (e:ExprS) (t:UInt8):Bool:=eqB e.text (b1 t)
def rowsE (a b:Nat):ExprS→Bool
 | .mk _ _ _ _ _ [k0,k1]=>if rowsN.getD b 0 > rowsN.getD a 0 then k0.is 120 && (match k1.kids with|[y,_]=>y.is 121|_=>false) else k1.is 122 && (match k0.kids with|[x,_]=>x.is 120|_=>false)
 | _=>false
def rowsB (a b:Nat):Bool:=match parseT (rowsL a b) with
 | some (.ok ⟨_,[⟨_,_,_,_,.mk _ _ _ _ [.mk _ _ _ (some e) _]⟩]⟩)=>rowsE a b e
 | _=>false
def rowsA (a:Nat):Bool:=(List.range 18).all (rowsB a)
open Go.AH
attribute [local irreducible] W RS WR
def opsV:List Value:=opsL.map fun l=>.string ⟨⟨l⟩⟩
def rowsV:List Value:=rowsN.map fun (n:Nat)=>.int .i64 (n:Int)
theorem pairR_pre {x y:Rk} (xw:x.wb=false) (xe:x.eb=none) (xvl:x.vl=[]) (xk:x.k=x.k') (xww:x.w=[]) (yw:y.wb=false) (ye:y.eb=none) (hk:x.k'≤y.k):pairR x y=true:=by
 have hb:Nat.beq x.k x.k'=true:=by rw [xk];simp
 unfold pairR crossB
 rw [xw,xe,xvl,xww,yw,ye,hb,ble_iff.2 hk]
 have hv:(y.vl.all fun j=>!memL j [] && (Nat.blt j x.k || Nat.ble x.k' j))=true:=by
  rw [List.all_eq_true]
  intro j _
  rw [xk]
  by_cases h:j < x.k'
  ·rw [blt_iff.2 h];simp [memL]
  ·rw [ble_iff.2 (Nat.le_of_not_lt h)];simp [memL]
 rw [hv]
 simp [noneB]
end Go.Proofs.YtbmmchaaiakanaaDoor
namespace Go.Proofs.YtbmmchaaiakanaaDoor
def sg5:List UInt8:=[45,126,33,42,38]
def sgC5 (j:Nat):UInt8:=sg5.getD j 45
def sgnL:List Nat→List UInt8
 | []=>[]
 | j::js=>(sgC5 j::[32])++sgnL js
def sNest:List UInt8:=[105,110,116,32,102,40,41,32,123,32,114,101,116,117,114,110,32]
def nestL (m:Nat) (js:List Nat):List UInt8:=((((sNest++repL [40] m)++sgnL js)++[120])++repL [41] m)++[59,32,125]
abbrev Key:=Nat × ByteArray
def keyT (t:TokS):Key:=(t.kind,t.text)
def keyL (l:List TokS):List Key:=l.map keyT
def ScanK (n p:Nat) (l:List UInt8) (ks:List Key):Prop:=∃ ts,scanL n p l=some ts∧keyL ts=ks
theorem ScanK.blank {n p:Nat} {r:List UInt8} {ks:List Key} (h:ScanK n (p+1) r ks):ScanK (n+1) p (32::r) ks:=by
 obtain ⟨ts,h1,h2⟩:=h
 exact ⟨ts,h1,h2⟩
theorem ScanK.sign {n p:Nat} {c:UInt8} {r:List UInt8} {ks:List Key} (hf:scanL (n+1) p (c::r)=(scanL n (p+1) r).map fun l=>⟨4,⟨⟨[c]⟩⟩,p,0,false,false⟩::l) (h:ScanK n (p+1) r ks):ScanK (n+1) p (c::r) ((4,b1 c)::ks):=by
 obtain ⟨ts,h1,h2⟩:=h
 refine ⟨_,by rw [hf,h1];rfl,?_⟩
 show (4,b1 c)::keyL ts=_
 rw [h2]
theorem ScanK.rep {c:UInt8} (hf:∀ n p r,scanL (n+1) p (c::r)=(scanL n (p+1) r).map fun l=>⟨4,⟨⟨[c]⟩⟩,p,0,false,false⟩::l):∀ (m n p:Nat) (r:List UInt8) (ks:List Key),ScanK n (p+m) r ks→ScanK (n+m) p (repL [c] m++r) (List.replicate m (4,b1 c)++ks):=by
 intro m
 induction m with
 | zero=>intro n p r ks h;exact h
 | succ m ih =>
  intro n p r ks h
  have h1:ScanK (n+1) (p+m) (c::r) ((4,b1 c)::ks):=ScanK.sign (hf _ _ _) h
  have h2:=ih _ p _ _ h1
  rw [repL,List.append_assoc,List.replicate_succ',List.append_assoc]
  rw [show n+(m+1)=n+1+m by omega]
  exact h2
theorem scan_op (n p:Nat) (r:List UInt8):scanL (n+1) p (40::r)=(scanL n (p+1) r).map fun l=>⟨4,⟨⟨[40]⟩⟩,p,0,false,false⟩::l:=rfl
theorem scan_cl (n p:Nat) (r:List UInt8):scanL (n+1) p (41::r)=(scanL n (p+1) r).map fun l=>⟨4,⟨⟨[41]⟩⟩,p,0,false,false⟩::l:=rfl
theorem scan_sg {j:Nat} (hj:j < 5) (n p:Nat) (r:List UInt8):scanL (n+1) p (sgC5 j::32::r)=(scanL n (p+1) (32::r)).map fun l=>⟨4,⟨⟨[sgC5 j]⟩⟩,p,0,false,false⟩::l:=by
 match j,hj with
 | 0,_=>rfl
 | 1,_=>rfl
 | 2,_=>rfl
 | 3,_=>rfl
 | 4,_=>rfl
theorem ScanK.signs:∀ (js:List Nat) (n p:Nat) (r:List UInt8) (ks:List Key),(∀ j∈js,j < 5)→ScanK n (p+2 * js.length) r ks→ScanK (n+2 * js.length) p (sgnL js++r) (js.map (fun j=>(4,b1 (sgC5 j)))++ks):=by
 intro js
 induction js with
 | nil=>intro n p r ks _ h;exact h
 | cons j js ih =>
  intro n p r ks hj h
  have h1:=ih n (p+2) r ks (fun i hi=>hj i (by simp [hi])) (by rw [show p+2+2 * js.length=p+2 * (j::js).length by simp only [List.length_cons];omega];exact h)
  rw [show n+2 * (j::js).length=(n+2 * js.length)+1+1 by simp only [List.length_cons];omega]
  exact ScanK.sign (scan_sg (hj j (by simp)) _ _ _) (ScanK.blank h1)
theorem ScanK.word {n p k:Nat} {c:UInt8} {w r:List UInt8} {ks:List Key} (hb:¬ blankI (ic c)=true) (hs:¬ slashB (c::(w++r))=true) (hl:letterI (ic c)=true) (ht:takeW (c::(w++r))=c::w) (hd:dropW (c::(w++r))=r) (h40:(c::w).length≤40) (hk:(if isWord ⟨⟨c::w⟩⟩=true then 2 else 1)=k) (h:ScanK n (p+(c::w).length) r ks):ScanK (n+1) p (c::(w++r)) ((k,⟨⟨c::w⟩⟩)::ks):=by
 obtain ⟨ts,h1,h2⟩:=h
 refine ⟨⟨k,⟨⟨c::w⟩⟩,p,0,false,false⟩::ts,?_,by show (k,_)::keyL ts=_;rw [h2]⟩
 rw [scanL,if_neg hb,if_neg hs,if_pos hl,ht,hd,if_pos h40,h1,hk]
 rfl
def nestK (m:Nat) (js:List Nat):List Key:=[(2,bInt),(1,b1 102),(4,b1 40),(4,b1 41),(4,b1 123),(2,bReturn)]++(List.replicate m (4,b1 40)++(js.map (fun j=>(4,b1 (sgC5 j)))++((1,b1 120)::(List.replicate m (4,b1 41)++[(4,b1 59),(4,b1 125),(0,⟨#[]⟩)]))))
theorem ScanK.mono:∀ {n k p:Nat} {l:List UInt8} {ks:List Key},ScanK n p l ks→ScanK (n+k) p l ks:=by
 have key:∀ {n k p:Nat} {l:List UInt8} {ts:List TokS},scanL n p l=some ts→scanL (n+k) p l=some ts:=by
  intro n
  induction n with
  | zero=>intro k p l ts h;cases l<;>cases h
  | succ n ih =>
   intro k p l ts h
   rw [show n+1+k=(n+k)+1 by omega]
   have mp:∀ {q:Nat} {r:List UInt8} {f:List TokS→List TokS},(scanL n q r).map f=some ts→(scanL (n+k) q r).map f=some ts:=by
    intro q r f he
    obtain ⟨x,hx,rfl⟩:=Option.map_eq_some_iff.1 he
    rw [ih hx];rfl
   cases l with
   | nil=>exact h
   | cons c r =>
    unfold scanL at h ⊢
    split at h
    ·rename_i hc;rw [if_pos hc];exact ih h
    rename_i hc;rw [if_neg hc]
    split at h
    ·cases h
    rename_i hc;rw [if_neg hc]
    split at h
    ·rename_i hc
     rw [if_pos hc]
     split at h
     ·rename_i hd;rw [if_pos hd];exact mp h
     ·cases h
    rename_i hc;rw [if_neg hc]
    split at h
    ·rename_i hc
     rw [if_pos hc]
     split at h
     ·exact mp h
     ·cases h
    rename_i hc;rw [if_neg hc]
    split at h
    ·cases h
    rename_i hc;rw [if_neg hc]
    split at h
    ·exact mp h
    ·cases h
 rintro n k p l ks ⟨ts,h1,h2⟩
 exact ⟨ts,key h1,h2⟩
theorem nest_scan {m:Nat} {js:List Nat} (hm:m≤15) (hl:js.length≤12) (hj:∀ j∈js,j < 5):ScanK 1000 0 (nestL m js) (nestK m js):=by
 have h0:ScanK (4+1) (17+m+2 * js.length+1+m) [59,32,125] [(4,b1 59),(4,b1 125),(0,⟨#[]⟩)]:=by
  refine ⟨[⟨4,b1 59,17+m+2 * js.length+1+m,0,false,false⟩,⟨4,b1 125,17+m+2 * js.length+1+m+1+1,0,false,false⟩,endTok (17+m+2 * js.length+1+m+1+1+1)],rfl,rfl⟩
 have h1:=ScanK.rep scan_cl m _ _ _ _ h0
 have hw:takeW (120::([]++(repL [41] m++[59,32,125])))=[120]∧dropW (120::([]++(repL [41] m++[59,32,125])))=repL [41] m++[59,32,125]:=by
  cases m with
  | zero=>exact ⟨rfl,rfl⟩
  | succ k =>
   have:∀ k r,∃ r',repL [41] (k+1)++r=41::r':=by
    intro k
    induction k with
    | zero=>intro r;exact ⟨r,rfl⟩
    | succ k ih=>intro r;obtain ⟨r',e⟩:=ih ([41]++r);exact ⟨r',by rw [repL,List.append_assoc,e]⟩
   obtain ⟨r',e⟩:=this k [59,32,125]
   rw [e]
   exact ⟨rfl,rfl⟩
 have h2:=ScanK.word (c:=120) (w:=[]) (k:=1) (p:=17+m+2 * js.length) (by decide) (show ¬ false=true by decide) (by decide) hw.1 hw.2 (by decide) (by decide +kernel) h1
 have h3:=ScanK.signs js _ _ _ _ hj h2
 have h4:=ScanK.rep scan_op m _ _ _ _ h3
 have h5:=ScanK.word (n:=4+1+m+1+2 * js.length+m+1) (c:=114) (w:=[101,116,117,114,110]) (k:=2) (p:=10) (by decide) (show ¬ false=true by decide) (by decide) (r:=32::(repL [40] m++(sgnL js++(120::([]++(repL [41] m++[59,32,125])))))) rfl rfl (by decide) (by decide +kernel) (ScanK.blank h4)
 have h5:=ScanK.sign (c:=123) (p:=8) rfl (ScanK.blank h5)
 have h5:=ScanK.sign (c:=41) (p:=6) rfl (ScanK.blank h5)
 have h5:=ScanK.sign (c:=40) (p:=5) rfl h5
 have h5:=ScanK.word (c:=102) (w:=[]) (k:=1) (p:=4) (by decide) (show ¬ false=true by decide) (by decide) rfl rfl (by decide) (by decide +kernel) h5
 have h5:=ScanK.word (c:=105) (w:=[110,116]) (k:=2) (p:=0) (by decide) (show ¬ false=true by decide) (by decide) rfl rfl (by decide) (by decide +kernel) (ScanK.blank h5)
 have h6:=h5.mono (k:=1000 - (4+1+m+1+2 * js.length+m+10))
 rw [show 4+1+m+1+2 * js.length+m+1+1+1+1+1+1+1+1+1+1+(1000 - (4+1+m+1+2 * js.length+m+10))=1000 by omega] at h6
 have e:nestL m js=sNest++(repL [40] m++(sgnL js++120::(repL [41] m++[59,32,125]))):=by
  unfold nestL
  simp only [List.append_assoc,List.cons_append,List.nil_append]
 rw [e];exact h6
end Go.Proofs.YtbmmchaaiakanaaDoor
