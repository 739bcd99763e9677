/-
  What the functions that the law reaches compute,told by plain data;it holds of programs that pass the check of right form and are light.
-/
import Derived.Lib.IndexBytes
import Derived.Lib.IndexLaws
import Derived.Lib.IndexMore
import Derived.Lib.Strings
import Derived.Test.YtgpigfcagppohaaGreatDoorS3
set_option linter.unusedVariables false
set_option linter.unusedSimpArgs false
namespace Go.Proofs.YtgpigfcagppohaaGreatDoor
def letterI (c:Int):Bool:=(decide (97≤c) && decide (c≤122)) || (decide (65≤c) && decide (c≤90)) || c == 95
def digitI (c:Int):Bool:=decide (48≤c) && decide (c≤57)
def wordyI (c:Int):Bool:=letterI c || digitI c
def blankI (c:Int):Bool:=c == 32 || c == 9 || c == 10 || c == 13
def valueI (c:Int):Int:=if digitI c then c - 48 else if decide (97≤c) && decide (c≤102) then c - 87 else if decide (65≤c) && decide (c≤70) then c - 55 else 99
def ic (c:UInt8):Int:=(c.toNat:Int)
def blankF:Nat→List UInt8→Nat × Bool
 | 0,_=>(0,true)
 | n+1,l =>
  match l with
  | []=>(0,true)
  | c::r =>
   if blankI (ic c) then (1+(blankF n r).1,(blankF n r).2)
   else if Lib.hasPrefix (c::r) [47,47] then
    (if Lib.indexByte (c :: r) 10 < 0 then ((c :: r).length, true)
     else ((Lib.indexByte (c::r) 10).toNat+(blankF n ((c::r).drop (Lib.indexByte (c::r) 10).toNat)).1,(blankF n ((c::r).drop (Lib.indexByte (c::r) 10).toNat)).2))
   else if Lib.hasPrefix (c::r) [47,42] then
    (if Lib.index ((c :: r).drop 2) [42, 47] < 0 then (0, false)
     else ((Lib.index ((c :: r).drop 2) [42, 47]).toNat + 4 + (blankF n ((c :: r).drop ((Lib.index ((c :: r).drop 2) [42, 47]).toNat + 4))).1,
           (blankF n ((c::r).drop ((Lib.index ((c::r).drop 2) [42,47]).toNat+4))).2))
   else (0,true)
theorem hp2 (c a b:UInt8) (r:List UInt8):Lib.hasPrefix (c::r) [a,b]=(a == c && (match r with|[]=>false|d::_=>b == d)):=by
 unfold Lib.hasPrefix;cases r<;>simp [List.isPrefixOf]
def blankG (l:List UInt8):Nat × Bool:=blankF l.length l
end Go.Proofs.YtgpigfcagppohaaGreatDoor
namespace Go.Proofs.YtgpigfcagppohaaGreatDoor
def chr (s:ByteArray) (i:Nat):Int:=if h:i < s.size then ((s[i]'h).toNat:Int) else -1
theorem chr_lt {s:ByteArray} {i:Nat} (h:i < s.size):chr s i=((s[i]'h).toNat:Int):=by unfold chr;rw [dif_pos h]
theorem chr_ge {s:ByteArray} {i:Nat} (h:¬ i < s.size):chr s i=-1:=by unfold chr;rw [dif_neg h]
theorem chr_nn {s:ByteArray} {i:Nat} (h:i < s.size):0≤chr s i:=by rw [chr_lt h];omega
theorem chr_le (s:ByteArray) (i:Nat):chr s i≤255:=by
 unfold chr;split
 ·have:=(s[i]).toNat_lt;omega
 ·omega
def valN (c:Int):Nat:=(valueI c).toNat
theorem valueI_nn (c:Int):0≤valueI c∧valueI c≤99:=by
 unfold valueI digitI
 simp only [Bool.and_eq_true,decide_eq_true_eq]
 repeat' split
 all_goals omega
theorem valN_cast (c:Int):valueI c=(valN c:Int):=by
 have:=valueI_nn c
 unfold valN;omega
theorem valN_le (c:Int):valN c≤99:=by
 have:=valueI_nn c
 unfold valN;omega
structure TokS where
 kind:Nat
 text:ByteArray
 pos:Nat
 value:Nat
 uns:Bool
 long:Bool
def zeroTok:TokS:=⟨0,⟨#[]⟩,0,0,false,false⟩
def numL (s:ByteArray) (base:Nat):Nat→Nat→Nat→Option (Nat × Nat)
 | 0,e,v=>some (v,e)
 | n+1,e,v=>if wordyI (chr s e)=true∧valN (chr s e) < base then (if (18446744073709551615 - valN (chr s e)) / base < v then none else numL s base n (e+1) (v * base+valN (chr s e))) else some (v,e)
def numTail (s:ByteArray) (p v e:Nat):TokS × Bool :=
 let u:=chr s e == 117
 let e1:=if u then e+1 else e
 let g:=chr s e1 == 108
 let e2:=if g then e1+1 else e1
 (⟨3,s.extract p e2,p,v,u,g⟩,!(wordyI (chr s e2)))
def numHex (s:ByteArray) (p:Nat):Bool:=chr s p == 48 && chr s (p+1) == 120
def numberR (s:ByteArray) (p base start:Nat):TokS × Bool :=
 match numL s base (s.size - start) start 0 with
 | none=>(zeroTok,false)
 | some (v,e)=>if e=start then (zeroTok,false) else numTail s p v e
def numberS (s:ByteArray) (p:Nat):TokS × Bool:=if numHex s p then numberR s p 16 (p+2) else numberR s p 10 p
theorem numL_step {s:ByteArray} {base e v:Nat} (he:e < s.size):numL s base (s.size - e) e v=if wordyI (chr s e)=true∧valN (chr s e) < base then (if (18446744073709551615 - valN (chr s e)) / base < v then none else numL s base (s.size - (e+1)) (e+1) (v * base+valN (chr s e))) else some (v,e):=by
 have:s.size - e=(s.size - (e+1))+1:=by omega
 rw [this,numL]
theorem numL_end {s:ByteArray} {base e v:Nat} (he:¬ e < s.size):numL s base (s.size - e) e v=some (v,e):=by
 have:s.size - e=0:=by omega
 rw [this,numL]
theorem hasP2 {s:ByteArray} {p:Nat} {a b:UInt8} (hp:p≤s.size):Lib.hasPrefix (s.extract p s.size).data.toList [a,b]=(chr s p == (a.toNat:Int) && chr s (p+1) == (b.toNat:Int)):=by
 have key:(s.extract p s.size).data.toList=s.data.toList.drop p:=by
  rw [Lib.extract_data]
  simp [List.take_of_length_le]
 have get:∀ i (h:i < s.size),s.data.toList[i]?=some (s[i]'h):=by
  intro i h
  rw [Array.getElem?_toList]
  exact Array.getElem?_eq_getElem (by simpa using h)
 have u8:∀ x y:UInt8,((x.toNat:Int) == (y.toNat:Int))=(y == x):=by
  intro x y
  rw [Bool.eq_iff_iff];simp only [beq_iff_eq]
  constructor
  ·intro h;exact (UInt8.toNat_inj.1 (by omega)).symm
  ·intro h;rw [h]
 rw [key]
 by_cases h0:p < s.size
 ·have g0:=get p h0
  have d0:s.data.toList.drop p=s[p]::s.data.toList.drop (p+1):=by
   have hl:p < s.data.toList.length:=by simpa using h0
   rw [List.drop_eq_getElem_cons hl]
   congr 1
  rw [d0,hp2,chr_lt h0,u8]
  congr 1
  by_cases h1:p+1 < s.size
  ·have hl:p+1 < s.data.toList.length:=by simpa using h1
   rw [List.drop_eq_getElem_cons hl,chr_lt h1,u8]
   rfl
  ·have hl:s.data.toList.length≤p+1:=by simpa using h1
   rw [List.drop_eq_nil_of_le hl,chr_ge h1]
   simp
 ·have hl:s.data.toList.length≤p:=by simpa using h0
  rw [List.drop_eq_nil_of_le hl,chr_ge h0]
  simp [Lib.hasPrefix]
end Go.Proofs.YtgpigfcagppohaaGreatDoor
namespace Go.Proofs.YtgpigfcagppohaaGreatDoor
def tl (s:ByteArray) (p:Nat):List UInt8:=(s.extract p s.size).data.toList
theorem tl_eq {s:ByteArray} {p:Nat}:tl s p=s.data.toList.drop p:=by
 unfold tl
 rw [Lib.extract_data]
 simp [List.take_of_length_le]
theorem tl_cons {s:ByteArray} {p:Nat} (h:p < s.size):tl s p=s[p]::tl s (p+1):=by
 rw [tl_eq,tl_eq]
 have hl:p < s.data.toList.length:=by simpa using h
 rw [List.drop_eq_getElem_cons hl]
 congr 1
theorem tl_nil {s:ByteArray} {p:Nat} (h:¬ p < s.size):tl s p=[]:=by
 rw [tl_eq]
 exact List.drop_eq_nil_of_le (by simpa using h)
theorem chr_u8 {s:ByteArray} {p:Nat} (h:p < s.size) (c:UInt8):(s[p] == c)=decide (chr s p=(c.toNat:Int)):=by
 rw [chr_lt h,Bool.eq_iff_iff]
 simp only [beq_iff_eq,decide_eq_true_eq]
 constructor
 ·intro e;rw [e]
 ·intro e;exact UInt8.toNat_inj.1 (by omega)
def nlF (s:ByteArray):Nat→Nat→Nat
 | 0,p=>p
 | n+1,p=>if chr s p=10 then p else nlF s n (p+1)
def nl (s:ByteArray) (p:Nat):Nat:=nlF s (s.size - p) p
theorem nl_at {s:ByteArray} {p:Nat} (h:chr s p=10):nl s p=p:=by
 unfold nl
 cases s.size - p with
 | zero=>rfl
 | succ n=>rw [nlF,if_pos h]
theorem nl_step {s:ByteArray} {p:Nat} (hp:p < s.size) (h:¬ chr s p=10):nl s p=nl s (p+1):=by
 unfold nl
 rw [show s.size - p=(s.size - (p+1))+1 by omega,nlF,if_neg h]
theorem nl_end {s:ByteArray} {p:Nat} (hp:¬ p < s.size):nl s p=p:=by
 unfold nl
 rw [show s.size - p=0 by omega,nlF]
theorem nl_ge (s:ByteArray):∀ n p,s.size - p=n→p≤nl s p∧(p≤s.size→nl s p≤s.size)∧(nl s p < s.size→chr s (nl s p)=10):=by
 intro n
 induction n with
 | zero=>intro p h;rw [nl_end (by omega)];exact ⟨Nat.le_refl _,fun h=>h,fun _=>by omega⟩
 | succ n ih =>
  intro p h
  by_cases hc:chr s p=10
  ·rw [nl_at hc];exact ⟨Nat.le_refl _,fun h=>h,fun _=>hc⟩
  ·rw [nl_step (by omega) hc]
   have:=ih (p+1) (by omega)
   exact ⟨by omega,fun _=>this.2.1 (by omega),this.2.2⟩
theorem ixB_nl (s:ByteArray):∀ n p,s.size - p=n→p≤s.size→Lib.indexByte (tl s p) 10=if nl s p < s.size then ((nl s p - p:Nat):Int) else -1:=by
 intro n
 induction n with
 | zero=>intro p h hp;rw [tl_nil (by omega),nl_end (by omega),if_neg (by omega)];rfl
 | succ n ih =>
  intro p h hp
  have hlt:p < s.size:=by omega
  rw [tl_cons hlt,Lib.indexByte,chr_u8 hlt]
  by_cases hc:chr s p=10
  ·rw [nl_at hc,if_pos hlt,if_pos (by simpa using hc)];simp
  ·rw [if_neg (by simpa using hc),ih (p+1) (by omega) (by omega),nl_step hlt hc]
   have:=(nl_ge s (s.size - (p+1)) (p+1) rfl).1
   by_cases h2:nl s (p+1) < s.size
   ·rw [if_pos h2,if_pos h2]
    rw [if_neg (by simp only [beq_iff_eq];omega)]
    omega
   ·rw [if_neg h2,if_neg h2];rfl
def endF (s:ByteArray):Nat→Nat→Option Nat
 | 0,_=>none
 | n+1,p=>if chr s p=42∧chr s (p+1)=47 then some p else endF s n (p+1)
def endC (s:ByteArray) (p:Nat):Option Nat:=endF s (s.size - p) p
theorem endC_at {s:ByteArray} {p:Nat} (h:chr s p=42∧chr s (p+1)=47):endC s p=some p:=by
 have hp:p < s.size:=by
  by_cases h0:p < s.size
  ·exact h0
  ·rw [chr_ge h0] at h;exact absurd h.1 (by decide)
 unfold endC
 rw [show s.size - p=(s.size - (p+1))+1 by omega,endF,if_pos h]
theorem endC_step {s:ByteArray} {p:Nat} (h:¬ (chr s p=42∧chr s (p+1)=47)):endC s p=endC s (p+1):=by
 unfold endC
 by_cases h0:p < s.size
 ·rw [show s.size - p=(s.size - (p+1))+1 by omega,endF,if_neg h]
 ·rw [show s.size - p=0 by omega,show s.size - (p+1)=0 by omega];rfl
theorem endC_end {s:ByteArray} {p:Nat} (hp:¬ p+1 < s.size):endC s p=none:=by
 unfold endC
 by_cases h:p < s.size
 ·rw [show s.size - p=0+1 by omega,endF,if_neg (fun hc=>by rw [chr_ge hp] at hc;exact absurd hc.2 (by decide))];rfl
 ·rw [show s.size - p=0 by omega];rfl
theorem endC_ok (s:ByteArray):∀ n p i,s.size - p=n→endC s p=some i→p≤i∧i+1 < s.size:=by
 intro n
 induction n with
 | zero=>intro p i h he;rw [endC_end (by omega)] at he;cases he
 | succ n ih =>
  intro p i h he
  by_cases hc:chr s p=42∧chr s (p+1)=47
  ·rw [endC_at hc] at he
   injection he with he
   subst he
   refine ⟨Nat.le_refl _,?_⟩
   by_cases h0:p+1 < s.size
   ·exact h0
   ·rw [chr_ge h0] at hc;exact absurd hc.2 (by decide)
  ·rw [endC_step hc] at he
   have:=ih (p+1) i (by omega) he
   exact ⟨by omega,this.2⟩
def endI (s:ByteArray) (p:Nat):Int:=match endC s p with
 | none=>-1
 | some i=>((i - p:Nat):Int)
theorem ix_end (s:ByteArray):∀ n p,s.size - p=n→p≤s.size→Lib.index (tl s p) [42,47]=endI s p:=by
 intro n
 induction n with
 | zero =>
  intro p h hp
  unfold endI
  rw [tl_nil (by omega),endC_end (by omega)]
  rfl
 | succ n ih =>
  intro p h hp
  have hlt:p < s.size:=by omega
  have hpre:=hasP2 (a:=42) (b:=47) hp
  have hpre:List.isPrefixOf [42,47] (tl s p)=(chr s p == 42 && chr s (p+1) == 47):=hpre
  by_cases hc:chr s p=42∧chr s (p+1)=47
  ·rw [tl_cons hlt] at hpre ⊢
   rw [Lib.index,hpre]
   unfold endI
   rw [endC_at hc]
   simp [hc.1,hc.2]
  ·have hb:(chr s p == 42 && chr s (p+1) == 47)=false:=by
    cases hq:(chr s p == 42 && chr s (p+1) == 47) with
    | false=>rfl
    | true=>simp only [Bool.and_eq_true,beq_iff_eq] at hq;exact absurd hq hc
   rw [hb] at hpre
   rw [tl_cons hlt] at hpre ⊢
   rw [Lib.index,hpre,ih (p+1) (by omega) (by omega)]
   unfold endI
   rw [endC_step hc]
   cases he:endC s (p+1) with
   | none=>rfl
   | some i =>
    have:=(endC_ok s _ _ i rfl he).1
    simp only [Bool.false_eq_true,if_false]
    rw [if_neg (by simp only [beq_iff_eq];omega)]
    omega
def blankF2 (s:ByteArray):Nat→Nat→Nat × Bool
 | 0,p=>(p,true)
 | n+1,p=>if blankI (chr s p)=true then blankF2 s n (p+1)
  else if chr s p=47∧chr s (p+1)=47 then blankF2 s n (nl s p)
  else if chr s p=47∧chr s (p+1)=42 then (match endC s (p+2) with|none=>(p,false)|some i=>blankF2 s n (i+2))
  else (p,true)
def blankS (s:ByteArray) (p:Nat):Nat × Bool:=blankF2 s (s.size - p) p
theorem blankF2_end {s:ByteArray} {n p:Nat} (h:¬ p < s.size):blankF2 s n p=(p,true):=by
 cases n with
 | zero=>rfl
 | succ n=>rw [blankF2,chr_ge h,if_neg (by decide),if_neg (fun hc=>absurd hc.1 (by decide)),if_neg (fun hc=>absurd hc.1 (by decide))]
theorem nl_gt {s:ByteArray} {p:Nat} (h:chr s p=47):p < nl s p:=by
 have hp:p < s.size:=by
  by_cases h0:p < s.size
  ·exact h0
  ·rw [chr_ge h0] at h;exact absurd h (by decide)
 rw [nl_step hp (by rw [h];decide)]
 have:=(nl_ge s _ (p+1) rfl).1
 omega
theorem blankF2_le (s:ByteArray):∀ n p,p≤s.size→p≤(blankF2 s n p).1∧(blankF2 s n p).1≤s.size:=by
 intro n
 induction n with
 | zero=>intro p h;exact ⟨Nat.le_refl _,h⟩
 | succ n ih =>
  intro p h
  by_cases hp:p < s.size
  ·rw [blankF2]
   split
   ·have:=ih (p+1) (by omega);omega
   ·split
    ·rename_i h1
     have h2:=nl_gt h1.1
     have h3:=(nl_ge s _ p rfl).2.1 h
     have:=ih (nl s p) h3;omega
    ·split
     ·split
      ·exact ⟨Nat.le_refl _,h⟩
      ·rename_i i he
       have:=endC_ok s _ _ i rfl he
       have:=ih (i+2) (by omega);omega
     ·exact ⟨Nat.le_refl _,h⟩
  ·rw [blankF2_end hp];exact ⟨Nat.le_refl _,h⟩
def escI (c:Int):Int:=if c=110 then 0 else if c=116 then 1 else if c=48 then 2 else if c=92 then 3 else if c=39 then 4 else -1
def escV (c:Int):Nat:=if c=110 then 10 else if c=116 then 9 else if c=48 then 0 else if c=92 then 92 else 39
def charS (s:ByteArray) (p:Nat):TokS × Bool :=
 if chr s (p+1)=92∧chr s (p+3)=39 then (if escI (chr s (p+2)) < 0 then (zeroTok,false) else (⟨3,s.extract p (p+4),p,escV (chr s (p+2)),false,false⟩,true))
 else if chr s (p+2)=39∧32≤chr s (p+1)∧chr s (p+1) < 127∧chr s (p+1)≠39∧chr s (p+1)≠92 then (⟨3,s.extract p (p+3),p,(chr s (p+1)).toNat,false,false⟩,true)
 else (zeroTok,false)
theorem esc_ix (c:Int) (h0:0≤c) (h1:c≤255):Lib.indexByte [110,116,48,92,39] c.toNat.toUInt8=escI c:=by
 obtain ⟨n,rfl⟩:∃ n:Nat,c=(n:Int):=⟨c.toNat,by omega⟩
 have hn:n < 256:=by omega
 have:∀ m:Fin 256,Lib.indexByte [110,116,48,92,39] (((m.val:Int)).toNat.toUInt8)=escI (m.val:Int):=by decide +kernel
 exact this ⟨n,hn⟩
theorem size_tail (s:ByteArray) {p:Nat}:(s.extract p s.size).size=s.size - p:=by simp
theorem chr_tail {s:ByteArray} {p i:Nat}:chr (s.extract p s.size) i=chr s (p+i):=by
 by_cases h:i < (s.extract p s.size).size
 ·have h2:p+i < s.size:=by simp at h;omega
  rw [chr_lt h,chr_lt h2]
  have e:(s.extract p s.size)[i]'h=s[p+i]'h2:=by
   have h3:i < (tl s p).length:=by rw [tl_eq];simp;omega
   have h4:(s.extract p s.size)[i]'h=(tl s p)[i]'h3:=rfl
   have h5:(tl s p)[i]?=some (s[p+i]'h2):=by
    rw [tl_eq,List.getElem?_drop,Array.getElem?_toList]
    exact Array.getElem?_eq_getElem (by simpa using h2)
   rw [h4]
   rw [List.getElem?_eq_getElem h3] at h5
   injection h5
  rw [e]
 ·have h2:¬ p+i < s.size:=by simp at h;omega
  rw [chr_ge h,chr_ge h2]
end Go.Proofs.YtgpigfcagppohaaGreatDoor
namespace Go.Proofs.YtgpigfcagppohaaGreatDoor
def wordF (s:ByteArray):Nat→Nat→Nat
 | 0,p=>p
 | n+1,p=>if wordyI (chr s p)=true then wordF s n (p+1) else p
def wordE (s:ByteArray) (p:Nat):Nat:=wordF s (s.size - p) p
theorem wordE_step {s:ByteArray} {p:Nat} (h:wordyI (chr s p)=true):wordE s p=wordE s (p+1):=by
 unfold wordE
 have hp:p < s.size:=by
  by_cases h0:p < s.size
  ·exact h0
  ·rw [chr_ge h0] at h;exact absurd h (by decide)
 rw [show s.size - p=(s.size - (p+1))+1 by omega,wordF,if_pos h]
theorem wordE_end {s:ByteArray} {p:Nat} (h:¬ wordyI (chr s p)=true):wordE s p=p:=by
 unfold wordE
 cases s.size - p with
 | zero=>rfl
 | succ n=>rw [wordF,if_neg h]
theorem wordE_le (s:ByteArray):∀ n p,s.size - p=n→p≤wordE s p∧(p≤s.size→wordE s p≤s.size):=by
 intro n
 induction n with
 | zero=>intro p h;rw [wordE_end (by rw [chr_ge (by omega)];decide)];exact ⟨Nat.le_refl _,fun h=>h⟩
 | succ n ih =>
  intro p h
  by_cases hc:wordyI (chr s p)=true
  ·rw [wordE_step hc];have:=ih (p+1) (by omega);exact ⟨by omega,fun _=>this.2 (by omega)⟩
  ·rw [wordE_end hc];exact ⟨Nat.le_refl _,fun h=>h⟩
def wordsB:ByteArray:=⟨(([32,98,114,101,97,107,32,99,97,115,101,32,99,104,97,114,32,99,111,110,116,105,110,117,101,32,100,101,102,97,117,108,116].append [32,100,111,32,101,108,115,101,32,102,111,114,32,105,102,32,105,110,116,32,108,111,110,103,32,112,117,98,108,105,99,32,114]).append ([101,116,117,114,110,32,115,101,99,114,101,116,32,115,104,111,114,116,32,115,105,103,110,101,100,32,115,105,122,101,111,102,32].append [115,116,114,117,99,116,32,115,119,105,116,99,104,32,117,110,115,105,103,110,101,100,32,118,111,105,100,32,119,104,105,108,101,32])).toArray⟩
def isWord (t:ByteArray):Bool:=Lib.contains wordsB.data.toList ((⟨#[32]⟩:ByteArray)++t++(⟨#[32]⟩:ByteArray)).data.toList
def signList:List (List UInt8):=[[60,60,61],[62,62,61],[45,62],[43,43],[45,45],[60,60],[62,62],[60,61],[62,61],[61,61],[33,61],[38,38],[124,124],[43,61],[45,61],[42,61],[47,61],[37,61],[38,61],[124,61],[94,61],[43],[45],[42],[47],[37],[38],[124],[94],[126],[33],[60],[62],[61],[63],[58],[59],[44],[46],[40],[41],[91],[93],[123],[125]]
def signAt (s:ByteArray) (p:Nat) (x:List UInt8):Bool:=Lib.hasPrefix (tl s p) x
def oneS (s:ByteArray) (p:Nat):TokS × Bool :=
 if letterI (chr s p)=true then (⟨if isWord (s.extract p (wordE s p))=true then 2 else 1,s.extract p (wordE s p),p,0,false,false⟩,decide (wordE s p - p≤40))
 else if digitI (chr s p)=true then numberS s p
 else if chr s p=39 then charS s p
 else match signList.find? (signAt s p) with
  | some x=>(⟨4,⟨⟨x⟩⟩,p,0,false,false⟩,true)
  | none=>(zeroTok,false)
end Go.Proofs.YtgpigfcagppohaaGreatDoor
namespace Go.Proofs.YtgpigfcagppohaaGreatDoor
theorem chr_in {s:ByteArray} {i:Nat} (h:0≤chr s i):i < s.size:=by
 by_cases h0:i < s.size
 ·exact h0
 ·rw [chr_ge h0] at h;exact absurd h (by decide)
theorem numL_le (s:ByteArray) (base:Nat):∀ n e v v' e',numL s base n e v=some (v',e')→e≤s.size→e≤e'∧e'≤s.size:=by
 intro n
 induction n with
 | zero=>intro e v v' e' h he;simp only [numL,Option.some.injEq,Prod.mk.injEq] at h;omega
 | succ n ih =>
  intro e v v' e' h he
  rw [numL] at h
  split at h
  ·rename_i hc
   split at h
   ·cases h
   ·have hw:e < s.size:=by
     by_cases h0:e < s.size
     ·exact h0
     ·rw [chr_ge h0] at hc;exact absurd hc.1 (by decide)
    have:=ih (e+1) _ v' e' h (by omega)
    omega
  ·simp only [Option.some.injEq,Prod.mk.injEq] at h;omega
def TokAt (s:ByteArray) (p:Nat) (t:TokS):Prop:=∃ e,p < e∧e≤s.size∧t.text=s.extract p e∧t.pos=p
theorem TokAt.size {s:ByteArray} {p:Nat} {t:TokS} (h:TokAt s p t):1≤t.text.size∧p+t.text.size≤s.size∧t.text=s.extract p (p+t.text.size):=by
 obtain ⟨e,h1,h2,h3,_⟩:=h
 have hs:t.text.size=e - p:=by rw [h3];simp;omega
 refine ⟨by omega,by omega,?_⟩
 rw [hs,h3];congr 1;omega
theorem numTail_at {s:ByteArray} {p v e:Nat} (hp:p < e) (he:e≤s.size):TokAt s p (numTail s p v e).1:=by
 have key:∀ q c,q≤s.size→(chr s q == c)=true→0≤c→q+1≤s.size:=by
  intro q c _ h1 h2
  have:chr s q=c:=by simpa using h1
  exact chr_in (by omega)
 unfold numTail
 refine ⟨_,?_,?_,rfl,rfl⟩
 ·repeat' split
  all_goals omega
 ·by_cases h1:(chr s e == 117)=true
  ·have:=key e 117 he h1 (by omega)
   rw [if_pos h1]
   split
   ·rename_i h2;exact key (e+1) 108 this h2 (by omega)
   ·exact this
  ·rw [if_neg h1]
   split
   ·rename_i h2;exact key e 108 he h2 (by omega)
   ·exact he
theorem numberR_at {s:ByteArray} {p base start:Nat} (h1:p≤start) (h2:start≤s.size) (hok:(numberR s p base start).2=true):TokAt s p (numberR s p base start).1:=by
 unfold numberR at hok ⊢
 split
 ·rename_i h;rw [h] at hok;cases hok
 ·rename_i v e h
  rw [h] at hok
  simp only at hok ⊢
  have hle:=numL_le s base _ _ _ _ _ h h2
  split
  ·rename_i h3;rw [if_pos h3] at hok;cases hok
  ·exact numTail_at (by omega) hle.2
theorem numberS_at {s:ByteArray} {p:Nat} (hp:p < s.size) (hok:(numberS s p).2=true):TokAt s p (numberS s p).1:=by
 unfold numberS at hok ⊢
 split
 ·rename_i h
  rw [if_pos h] at hok
  have h2:chr s (p+1)=120:=by
   unfold numHex at h
   simp only [Bool.and_eq_true,beq_iff_eq] at h
   exact h.2
  have:=chr_in (s:=s) (i:=p+1) (by omega)
  exact numberR_at (by omega) (by omega) hok
 ·rename_i h
  rw [if_neg h] at hok
  exact numberR_at (Nat.le_refl _) (by omega) hok
theorem charS_at {s:ByteArray} {p:Nat} (hok:(charS s p).2=true):TokAt s p (charS s p).1:=by
 unfold charS at hok ⊢
 split
 ·rename_i h
  rw [if_pos h] at hok
  have:=chr_in (s:=s) (i:=p+3) (by omega)
  split
  ·rename_i h1;rw [if_pos h1] at hok;cases hok
  ·exact ⟨p+4,by omega,by omega,rfl,rfl⟩
 ·rename_i h
  rw [if_neg h] at hok
  split
  ·rename_i h1
   have:=chr_in (s:=s) (i:=p+2) (by omega)
   exact ⟨p+3,by omega,by omega,rfl,rfl⟩
  ·rename_i h1;rw [if_neg h1] at hok;cases hok
theorem sign_ne:∀ x∈signList,1≤x.length:=by decide
theorem tl_take {s:ByteArray} {p n:Nat}:(s.extract p (p+n)).data.toList=(tl s p).take n:=by
 rw [tl_eq,Lib.extract_data]
 simp
theorem oneS_at {s:ByteArray} {p:Nat} (hp:p < s.size) (hok:(oneS s p).2=true):TokAt s p (oneS s p).1:=by
 unfold oneS at hok ⊢
 split
 ·rename_i h
  have h1:=wordE_step (s:=s) (p:=p) (by unfold wordyI;simp [h])
  have h2:=(wordE_le s _ (p+1) rfl)
  exact ⟨wordE s p,by omega,by have:=h2.2 (by omega);omega,rfl,rfl⟩
 ·rename_i h
  rw [if_neg h] at hok
  split
  ·rename_i h1;rw [if_pos h1] at hok;exact numberS_at hp hok
  ·rename_i h1
   rw [if_neg h1] at hok
   split
   ·rename_i h2;rw [if_pos h2] at hok;exact charS_at hok
   ·rename_i h2
    rw [if_neg h2] at hok
    split
    ·rename_i x hx
     have h3:=List.find?_some hx
     have h4:=sign_ne x (List.mem_of_find?_eq_some hx)
     have h5:x <+: tl s p:=by
      have:List.isPrefixOf x (tl s p)=true:=h3
      exact List.isPrefixOf_iff_prefix.1 this
     have h6:x.length≤(tl s p).length:=h5.length_le
     have h7:(tl s p).length=s.size - p:=by rw [tl_eq];simp
     refine ⟨p+x.length,by omega,by omega,?_,rfl⟩
     have h8:(s.extract p (p+x.length)).data.toList=x:=by rw [tl_take];exact (List.prefix_iff_eq_take.1 h5).symm
     show (⟨⟨x⟩⟩:ByteArray)=_
     generalize s.extract p (p+x.length)=q at h8
     cases q with
     | mk d=>cases d with
      | mk l=>simp only at h8;rw [h8]
    ·rename_i hx;rw [hx] at hok;cases hok
def endTok (p:Nat):TokS:=⟨0,⟨#[]⟩,p,0,false,false⟩
def scanF (s:ByteArray):Nat→Nat→List TokS→Except (Nat × Nat) (List TokS)
 | 0,p,_=>.error (10,p)
 | n+1,p,out=>match blankS s p with
  | (q,false)=>.error (10,q)
  | (q,true)=>if q=s.size then .ok (out++[endTok q]) else match oneS s q with
   | (_,false)=>.error (10,q)
   | (t,true)=>scanF s n (q+t.text.size) (out++[t])
def scanS (s:ByteArray):Except (Nat × Nat) (List TokS):=if 16384 < s.size then .error (2,16384) else scanF s (s.size+1) 0 []
theorem blankS_le (s:ByteArray) {p:Nat} (hp:p≤s.size):p≤(blankS s p).1∧(blankS s p).1≤s.size:=blankF2_le s _ p hp
end Go.Proofs.YtgpigfcagppohaaGreatDoor
