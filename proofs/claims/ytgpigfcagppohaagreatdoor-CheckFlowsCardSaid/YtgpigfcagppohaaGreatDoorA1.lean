/-
  The plain heap and what operations do to it;it holds of any world that the plain heap is told of.
-/
import Derived.Calls
import Derived.Defers
import Derived.Laws.Append
import Derived.Laws.BytesString
import Derived.Laws.Cells
import Derived.Laws.Entries
import Derived.Laws.Sem
import Derived.Laws.Tables
import Derived.Laws.World
import Derived.LoopN
import Derived.Orders
import Derived.Still
set_option linter.unusedVariables false
set_option linter.unusedSimpArgs false
namespace Go.AH
structure Env where
 loc:Nat→Nat
 cap:Nat→Nat
 sh:Nat→Nat
def rwM:Nat:=2 ^ 1024
def capMark:Nat:=18446744073709551616
def renAddr (ρ:Env) (a:Addr):Addr:={ a with block:=ρ.loc a.block,off:=a.off+ρ.sh a.block }
def renCap (ρ:Env) (a:Addr) (c:Nat):Nat:=if c < capMark then c else (ρ.cap a.block - a.off) / (c - capMark)
def ren (ρ:Env):Value→Value
 | .pointer (some a)=>.pointer (some (renAddr ρ a))
 | .slice (some a) l c=>.slice (some (renAddr ρ a)) l (renCap ρ a c)
 | .map (some r)=>.map (some (ρ.loc r))
 | .chan (some r)=>.chan (some (ρ.loc r))
 | .func fn f c=>.func fn (f.attach.map fun ⟨v,_⟩=>ren ρ v) (c.attach.map fun ⟨v,_⟩=>ren ρ v)
 | .iface t v=>.iface t (ren ρ v)
 | .agg cs=>.agg (cs.attach.map fun ⟨v,_⟩=>ren ρ v)
 | .tuple cs=>.tuple (cs.attach.map fun ⟨v,_⟩=>ren ρ v)
 | v=>v
section
variable (ρ:Env)
@[simp] theorem ren_agg (cs:Array Value):ren ρ (.agg cs)=.agg (cs.map (ren ρ)):=by rw [ren];simp
@[simp] theorem ren_tuple (cs:Array Value):ren ρ (.tuple cs)=.tuple (cs.map (ren ρ)):=by rw [ren];simp
@[simp] theorem ren_func (fn:Fn) (f c:Array Value):ren ρ (.func fn f c)=.func fn (f.map (ren ρ)) (c.map (ren ρ)):=by rw [ren];simp
@[simp] theorem ren_iface (t:TypeId) (v:Value):ren ρ (.iface t v)=.iface t (ren ρ v):=by rw [ren]
@[simp] theorem ren_bool (b:Bool):ren ρ (.bool b)=.bool b:=by rw [ren]<;>simp
@[simp] theorem ren_int (k:IntKind) (n:Int):ren ρ (.int k n)=.int k n:=by rw [ren]<;>simp
@[simp] theorem ren_float (k:FloatKind) (n:Nat):ren ρ (.float k n)=.float k n:=by rw [ren]<;>simp
@[simp] theorem ren_complex (k:FloatKind) (n m:Nat):ren ρ (.complex k n m)=.complex k n m:=by rw [ren]<;>simp
@[simp] theorem ren_string (s:ByteArray):ren ρ (.string s)=.string s:=by rw [ren]<;>simp
@[simp] theorem ren_nilFunc:ren ρ .nilFunc=.nilFunc:=by rw [ren]<;>simp
@[simp] theorem ren_nilIface:ren ρ .nilIface=.nilIface:=by rw [ren]<;>simp
@[simp] theorem ren_ptr_none:ren ρ (.pointer none)=.pointer none:=by rw [ren]<;>simp
@[simp] theorem ren_ptr (a:Addr):ren ρ (.pointer (some a))=.pointer (some (renAddr ρ a)):=by rw [ren]
@[simp] theorem ren_slice_none (l c:Nat):ren ρ (.slice none l c)=.slice none l c:=by rw [ren]<;>simp
@[simp] theorem ren_slice (a:Addr) (l c:Nat):ren ρ (.slice (some a) l c)=.slice (some (renAddr ρ a)) l (renCap ρ a c):=by rw [ren]
@[simp] theorem ren_map_none:ren ρ (.map none)=.map none:=by rw [ren]<;>simp
@[simp] theorem ren_map (r:Nat):ren ρ (.map (some r))=.map (some (ρ.loc r)):=by rw [ren]
@[simp] theorem ren_undef:ren ρ undef=undef:=by unfold undef;simp
end
def bnd (n:Nat):Value→Prop
 | .pointer (some a)=>a.block < n
 | .slice (some a) _ _=>a.block < n
 | .map (some r)=>r < n
 | .chan (some r)=>r < n
 | .func _ f c=>(∀ v,(h:v∈f)→bnd n v)∧(∀ v,(h:v∈c)→bnd n v)
 | .iface _ v=>bnd n v
 | .agg cs=>∀ v,(h:v∈cs)→bnd n v
 | .tuple cs=>∀ v,(h:v∈cs)→bnd n v
 | _=>True
section
variable (n:Nat)
@[simp] theorem bnd_agg (cs:Array Value):bnd n (.agg cs)↔∀ v∈cs,bnd n v:=by rw [bnd]
@[simp] theorem bnd_tuple (cs:Array Value):bnd n (.tuple cs)↔∀ v∈cs,bnd n v:=by rw [bnd]
@[simp] theorem bnd_func (fn:Fn) (f c:Array Value):bnd n (.func fn f c)↔(∀ v∈f,bnd n v)∧(∀ v∈c,bnd n v):=by rw [bnd]
@[simp] theorem bnd_iface (t:TypeId) (v:Value):bnd n (.iface t v)↔bnd n v:=by rw [bnd]
@[simp] theorem bnd_bool (b:Bool):bnd n (.bool b):=by rw [bnd]<;>simp
@[simp] theorem bnd_int (k:IntKind) (i:Int):bnd n (.int k i):=by rw [bnd]<;>simp
@[simp] theorem bnd_float (k:FloatKind) (i:Nat):bnd n (.float k i):=by rw [bnd]<;>simp
@[simp] theorem bnd_complex (k:FloatKind) (i j:Nat):bnd n (.complex k i j):=by rw [bnd]<;>simp
@[simp] theorem bnd_string (s:ByteArray):bnd n (.string s):=by rw [bnd]<;>simp
@[simp] theorem bnd_nilFunc:bnd n .nilFunc:=by rw [bnd]<;>simp
@[simp] theorem bnd_nilIface:bnd n .nilIface:=by rw [bnd]<;>simp
@[simp] theorem bnd_ptr_none:bnd n (.pointer none):=by rw [bnd]<;>simp
@[simp] theorem bnd_ptr (a:Addr):bnd n (.pointer (some a))↔a.block < n:=by rw [bnd]
@[simp] theorem bnd_slice_none (l c:Nat):bnd n (.slice none l c):=by rw [bnd]<;>simp
@[simp] theorem bnd_slice (a:Addr) (l c:Nat):bnd n (.slice (some a) l c)↔a.block < n:=by rw [bnd]
@[simp] theorem bnd_map_none:bnd n (.map none):=by rw [bnd]<;>simp
@[simp] theorem bnd_map (r:Nat):bnd n (.map (some r))↔r < n:=by rw [bnd]
@[simp] theorem bnd_undef:bnd n undef:=by unfold undef;simp
end
def Agree (n:Nat) (ρ ρ':Env):Prop:=∀ i,i < n→ρ'.loc i=ρ.loc i∧ρ'.cap i=ρ.cap i∧ρ'.sh i=ρ.sh i
theorem ren_agree {n:Nat} {ρ ρ':Env} (h:Agree n ρ ρ'):∀ v,bnd n v→ren ρ' v=ren ρ v:=by
 intro v
 induction v using ren.induct with
 | case1 a=>intro hb;simp at hb;simp [renAddr,(h _ hb).1,(h _ hb).2.2]
 | case2 a l c=>intro hb;simp at hb;simp [renAddr,renCap,(h _ hb).1,(h _ hb).2.1,(h _ hb).2.2]
 | case3 r=>intro hb;simp at hb;simp [(h _ hb).1]
 | case4 r=>intro hb;rw [bnd] at hb;rw [ren,ren,(h _ hb).1]
 | case5 fn f c ih1 ih2 =>
  intro hb;simp only [bnd_func] at hb;simp only [ren_func]
  congr 1
  ·exact Array.map_congr_left fun v hv=>ih1 v hv (hb.1 v hv)
  ·exact Array.map_congr_left fun v hv=>ih2 v hv (hb.2 v hv)
 | case6 t v ih=>intro hb;simp only [bnd_iface] at hb;simp [ih hb]
 | case7 cs ih=>intro hb;simp only [bnd_agg] at hb;simp only [ren_agg];congr 1;exact Array.map_congr_left fun v hv=>ih v hv (hb v hv)
 | case8 cs ih=>intro hb;simp only [bnd_tuple] at hb;simp only [ren_tuple];congr 1;exact Array.map_congr_left fun v hv=>ih v hv (hb v hv)
 | case9 v=>intro _;rw [ren,ren]<;>simp_all
theorem bnd_mono {n m:Nat} (hnm:n≤m):∀ v,bnd n v→bnd m v:=by
 intro v
 induction v using bnd.induct with
 | case1 a=>simp;omega
 | case2 a l c=>simp;omega
 | case3 r=>simp;omega
 | case4 r=>intro h;rw [bnd] at h ⊢;omega
 | case5 fn f c ih1 ih2=>simp only [bnd_func];exact fun h=>⟨fun v hv=>ih1 v hv (h.1 v hv),fun v hv=>ih2 v hv (h.2 v hv)⟩
 | case6 t v ih=>simpa using ih
 | case7 cs ih=>simp only [bnd_agg];exact fun h v hv=>ih v hv (h v hv)
 | case8 cs ih=>simp only [bnd_tuple];exact fun h v hv=>ih v hv (h v hv)
 | case9 v=>intro _;rw [bnd]<;>simp_all
theorem ren_free (ρ:Env) (v:Value) (h:bnd 0 v):ren ρ v=v:=by
 have:∀ v,bnd 0 v→ren ρ v=v:=by
  intro v
  induction v using ren.induct with
  | case1 a=>simp
  | case2 a l c=>simp
  | case3 r=>simp
  | case4 r=>intro h;rw [bnd] at h;omega
  | case5 fn f c ih1 ih2 =>
   intro hb;simp only [bnd_func] at hb;simp only [ren_func]
   congr 1
   ·conv=>rhs;rw [← Array.map_id f]
    exact Array.map_congr_left fun v hv=>ih1 v hv (hb.1 v hv)
   ·conv=>rhs;rw [← Array.map_id c]
    exact Array.map_congr_left fun v hv=>ih2 v hv (hb.2 v hv)
  | case6 t v ih=>intro hb;simp only [bnd_iface] at hb;simp [ih hb]
  | case7 cs ih =>
   intro hb;simp only [bnd_agg] at hb;simp only [ren_agg];congr 1
   conv=>rhs;rw [← Array.map_id cs]
   exact Array.map_congr_left fun v hv=>ih v hv (hb v hv)
  | case8 cs ih =>
   intro hb;simp only [bnd_tuple] at hb;simp only [ren_tuple];congr 1
   conv=>rhs;rw [← Array.map_id cs]
   exact Array.map_congr_left fun v hv=>ih v hv (hb v hv)
  | case9 v=>intro _;rw [ren]<;>simp_all
 exact this v h
structure Blk where
 cells:Array Value
 elem:TypeId
structure Hp where
 m:Nat→Option Blk
 n:Nat
def mapM:Nat:=1000000
def encN:List Nat→Nat
 | []=>0
 | a::l=>2 ^ a * (2 * encN l+1)
theorem pow_odd {a b x y:Nat} (h:2 ^ a * (2 * x+1)=2 ^ b * (2 * y+1)):a=b∧x=y:=by
 induction a generalizing b with
 | zero =>
  cases b with
  | zero=>simp at h;exact ⟨rfl,by omega⟩
  | succ b => rw [Nat.pow_succ, Nat.pow_zero] at h; have : 2 ^ b * 2 * (2 * y + 1) = 2 * (2 ^ b * (2 * y + 1)) := by rw [Nat.mul_comm (2 ^ b), Nat.mul_assoc]
              rw [this] at h;omega
 | succ a ih =>
  cases b with
  | zero => rw [Nat.pow_succ, Nat.pow_zero] at h; have : 2 ^ a * 2 * (2 * x + 1) = 2 * (2 ^ a * (2 * x + 1)) := by rw [Nat.mul_comm (2 ^ a), Nat.mul_assoc]
            rw [this] at h;omega
  | succ b =>
   have e1:2 ^ (a+1) * (2 * x+1)=2 * (2 ^ a * (2 * x+1)):=by rw [Nat.pow_succ,Nat.mul_comm (2 ^ a),Nat.mul_assoc]
   have e2:2 ^ (b+1) * (2 * y+1)=2 * (2 ^ b * (2 * y+1)):=by rw [Nat.pow_succ,Nat.mul_comm (2 ^ b),Nat.mul_assoc]
   rw [e1,e2] at h
   have:=ih (b:=b) (by omega)
   exact ⟨by omega,this.2⟩
theorem encN_pos (a:Nat) (l:List Nat):0 < encN (a::l):=Nat.mul_pos (Nat.two_pow_pos a) (by omega)
theorem encN_inj:∀ {l m:List Nat},encN l=encN m→l=m
 | [],[],_=>rfl
 | [],a::m,h=>by have:=encN_pos a m;rw [← h] at this;exact absurd this (by simp [encN])
 | a::l,[],h=>by have:=encN_pos a l;rw [h] at this;exact absurd this (by simp [encN])
 | a::l,b::m,h=>by
  obtain ⟨h1,h2⟩:=pow_odd (show 2 ^ a * (2 * encN l+1)=2 ^ b * (2 * encN m+1) from h)
  rw [h1,encN_inj h2]
def natZ:Int→Nat
 | .ofNat n=>2 * n
 | .negSucc n=>2 * n+1
theorem natZ_inj:∀ {a b:Int},natZ a=natZ b→a=b
 | .ofNat a,.ofNat b,h=>by simp only [natZ] at h;congr 1;omega
 | .ofNat a,.negSucc b,h=>by simp only [natZ] at h;omega
 | .negSucc a,.ofNat b,h=>by simp only [natZ] at h;omega
 | .negSucc a,.negSucc b,h=>by simp only [natZ] at h;congr 1;omega
theorem map_inj {α β:Type} {f:α→β} (hf:∀ {a b},f a=f b→a=b):∀ {l m:List α},l.map f=m.map f→l=m
 | [],[],_=>rfl
 | [],_::_,h=>by simp at h
 | _::_,[],h=>by simp at h
 | a::l,b::m,h=>by
  simp only [List.map_cons,List.cons.injEq] at h
  rw [hf h.1,map_inj hf h.2]
structure MapC where
 s:Nat
 clock:Nat
 rows:List (Nat × List Int)
def MapC.code (m:MapC):List Nat:=m.s::m.clock::m.rows.map fun r=>encN (r.1::r.2.map natZ)
def mapE (m:MapC):Nat:=mapM+encN m.code
theorem mapE_inj {m m':MapC} (h:mapE m=mapE m'):m=m':=by
 have h1:=encN_inj (Nat.add_left_cancel h)
 obtain ⟨s,c,l⟩:=m
 obtain ⟨s',c',l'⟩:=m'
 simp only [MapC.code,List.cons.injEq] at h1
 obtain ⟨rfl,rfl,h2⟩:=h1
 congr 1
 refine map_inj (f:=fun r:Nat × List Int=>encN (r.1::r.2.map natZ)) (fun {a b} h=>?_) h2
 have h3:=encN_inj h
 simp only [List.cons.injEq] at h3
 obtain ⟨a1,a2⟩:=a
 obtain ⟨b1,b2⟩:=b
 simp only at h3
 rw [h3.1,map_inj natZ_inj h3.2]
theorem mapE_ge (m:MapC):mapM≤mapE m:=Nat.le_add_right _ _
def mapKV (s:Nat) (r:List Int):Value × Value:=match s with
 | 0=>(.int .i64 (r.headD 0),.agg ⟨r.tail.map (.int .i64)⟩)
 | 1=>(.string ⟨⟨(r.tail.map fun n=>UInt8.ofNat n.toNat)⟩⟩,.int .i64 (r.headD 0))
 | _=>(.int .u64 (r.headD 0),.agg ⟨r.tail.map (.int .u64)⟩)
def rowE (s:Nat) (r:Nat × List Int):MapEntry:={ key:=(mapKV s r.2).1,val:=(mapKV s r.2).2,born:=r.1 }
def MapC.es (m:MapC):Array MapEntry:=⟨m.rows.map (rowE m.s)⟩
def FitsC (ρ:Env) (i:Nat) (b:Blk) (o:Option Obj):Prop :=
 ∃ (pre tail:Array Value) (fr:Nat × Nat),o=some (.cells (pre++b.cells.map (ren ρ)++tail) b.elem fr)∧pre.size=ρ.sh i∧(rwM≤i→pre=#[]∧b.cells.size+tail.size=ρ.cap i∧(∀ k,k < ρ.cap i→¬ (fr.1≤k∧k < fr.2))∧(∀ v∈tail,bnd 0 v)∧b.elem < mapM)
def FitsM (ρ:Env) (i:Nat) (b:Blk) (o:Option Obj):Prop :=
 ∃ m:MapC,o=some (.map m.es m.clock)∧b.cells=#[]∧b.elem=mapE m∧ρ.sh i=0
def Fits (ρ:Env) (i:Nat) (b:Blk) (o:Option Obj):Prop:=FitsC ρ i b o∨FitsM ρ i b o
structure HOK (G:Nat) (h:Hp) (ρ:Env) (W:World):Prop where
 fits:∀ i b,h.m i=some b→Fits ρ i b W.heap[ρ.loc i]?
 lt:∀ i b,h.m i=some b→i < h.n
 inj:∀ i j b c,rwM≤i→h.m i=some b→h.m j=some c→ρ.loc i=ρ.loc j→i=j
 bd:∀ i b,h.m i=some b→∀ v∈b.cells,bnd h.n v
 glob:∀ g,g < G→ρ.loc g=g∧ρ.sh g=0
 gle:rwM≤h.n
 gow:G≤rwM
theorem HOK.gn {G:Nat} {h:Hp} {ρ:Env} {W:World} (ho:HOK G h ρ W):G≤h.n:=Nat.le_trans ho.gow ho.gle
theorem Fits.own' {ρ:Env} {i:Nat} {b:Blk} {o:Option Obj} (h:Fits ρ i b o) (hi:rwM≤i) (hne:0 < b.cells.size∨b.elem < mapM) :
 ∃ (tail:Array Value) (fr:Nat × Nat),o=some (.cells (b.cells.map (ren ρ)++tail) b.elem fr)∧b.cells.size+tail.size=ρ.cap i∧(∀ k,k < ρ.cap i→¬ (fr.1≤k∧k < fr.2))∧(∀ v∈tail,bnd 0 v)∧ρ.sh i=0∧b.elem < mapM:=by
 rcases h with ⟨pre,tail,fr,he,hs,hw⟩|⟨m,he,h1,h2,_⟩
 ·obtain ⟨h1,h2,h3,h4,h5⟩:=hw hi
  subst h1
  exact ⟨tail,fr,by simpa using he,h2,h3,h4,by simpa using hs.symm,h5⟩
 ·exfalso
  rcases hne with hne|hne
  ·rw [h1] at hne;simp at hne
  ·rw [h2] at hne;exact Nat.not_lt.2 (mapE_ge m) hne
theorem Fits.own {ρ:Env} {i:Nat} {b:Blk} {o:Option Obj} (h:Fits ρ i b o) (hi:rwM≤i) (hne:0 < b.cells.size∨b.elem < mapM) :
 ∃ (tail:Array Value) (fr:Nat × Nat),o=some (.cells (b.cells.map (ren ρ)++tail) b.elem fr)∧b.cells.size+tail.size=ρ.cap i∧(∀ k,k < ρ.cap i→¬ (fr.1≤k∧k < fr.2))∧(∀ v∈tail,bnd 0 v)∧ρ.sh i=0:=by
 obtain ⟨tail,fr,h1,h2,h3,h4,h5,_⟩:=h.own' hi hne
 exact ⟨tail,fr,h1,h2,h3,h4,h5⟩
theorem Fits.sh0 {ρ:Env} {i:Nat} {b:Blk} {o:Option Obj} (h:Fits ρ i b o) (hi:rwM≤i):ρ.sh i=0:=by
 rcases h with ⟨pre,tail,fr,he,hs,hw⟩|⟨m,he,h1,h2,h3⟩
 ·obtain ⟨h1,_⟩:=hw hi
  subst h1;simpa using hs.symm
 ·exact h3
theorem Fits.szle {ρ:Env} {i:Nat} {b:Blk} {o:Option Obj} (h:Fits ρ i b o) (hi:rwM≤i):b.cells.size≤ρ.cap i:=by
 rcases h with ⟨pre,tail,fr,he,hs,hw⟩|⟨m,he,h1,h2,_⟩
 ·obtain ⟨_,h2,_⟩:=hw hi
  omega
 ·rw [h1];simp
theorem Fits.map {ρ:Env} {i:Nat} {m:MapC} {cs:Array Value} {o:Option Obj} (h:Fits ρ i ⟨cs,mapE m⟩ o) (hi:rwM≤i) :
 o=some (.map m.es m.clock)∧cs=#[]∧ρ.sh i=0:=by
 rcases h with ⟨pre,tail,fr,he,hs,hw⟩|⟨m',he,h1,h2,h3⟩
 ·obtain ⟨_,_,_,_,h5⟩:=hw hi
  exact absurd h5 (Nat.not_lt.2 (mapE_ge m))
 ·obtain rfl:=mapE_inj h2
  exact ⟨he,h1,h3⟩
theorem Fits.mk {ρ:Env} {i:Nat} {b:Blk} {o:Option Obj} (tail:Array Value) (fr:Nat × Nat) (he:o=some (.cells (b.cells.map (ren ρ)++tail) b.elem fr)) (hc:b.cells.size+tail.size=ρ.cap i) (hf:∀ k,k < ρ.cap i→¬ (fr.1≤k∧k < fr.2)) (ht:∀ v∈tail,bnd 0 v) (hs:ρ.sh i=0) (hm:b.elem < mapM):Fits ρ i b o :=
 .inl ⟨#[],tail,fr,by simpa using he,by simpa using hs.symm,fun _=>⟨rfl,hc,hf,ht,hm⟩⟩
theorem Fits.conv {ρ ρ':Env} {i j:Nat} {b b':Blk} {o o':Option Obj} (h:Fits ρ i b o) (ho:o'=o) (he:b'.elem=b.elem) (hc:b'.cells.map (ren ρ')=b.cells.map (ren ρ)) (hcap:rwM≤j→ρ'.cap j=ρ.cap i) (hsh:ρ'.sh j=ρ.sh i) (hw:rwM≤j→rwM≤i):Fits ρ' j b' o':=by
 subst ho
 have hsz:b'.cells.size=b.cells.size:=by have:=congrArg Array.size hc;simpa using this
 rcases h with ⟨pre,tail,fr,h1,h2,h3⟩|⟨m,h1,h2,h3,h6⟩
 ·refine .inl ⟨pre,tail,fr,by rw [hc,he];exact h1,by rw [hsh];exact h2,fun hj=>?_⟩
  obtain ⟨g1,g2,g3,g4,g5⟩:=h3 (hw hj)
  exact ⟨g1,by rw [hcap hj,hsz];exact g2,by rw [hcap hj];exact g3,g4,by rw [he];exact g5⟩
 ·refine .inr ⟨m,h1,?_,by rw [he];exact h3,by rw [hsh];exact h6⟩
  exact Array.eq_empty_of_size_eq_zero (by rw [hsz,h2];rfl)
def AlikeC (o o':Option Obj) (n:Nat):Prop:=∃ (c c':Array Value) (t:TypeId) (fr:Nat × Nat),o=some (.cells c t fr)∧o'=some (.cells c' t fr)∧c'.size=c.size∧∀ k,n≤k→c'[k]?=c[k]?
def AlikeM (o o':Option Obj):Prop:=∃ es es' clock clock',o=some (.map es clock)∧o'=some (.map es' clock')
def Alike (o o':Option Obj) (n:Nat):Prop:=o'=o∨AlikeC o o' n∨AlikeM o o'
theorem Alike.refl (o:Option Obj) (n:Nat):Alike o o n:=.inl rfl
theorem Alike.trans {o o1 o2:Option Obj} {n m:Nat} (hnm:n≤m) (a:Alike o o1 n) (b:Alike o1 o2 m):Alike o o2 m:=by
 rcases a with rfl|⟨c,c1,t,fr,h1,h2,h3,h4⟩|⟨es,es',cl,cl',h1,h2⟩
 ·exact b
 ·rcases b with rfl|⟨d,d1,t',fr',g1,g2,g3,g4⟩|⟨fs,fs',cm,cm',g1,g2⟩
  ·exact .inr (.inl ⟨c,c1,t,fr,h1,h2,h3,fun k hk=>h4 k (by omega)⟩)
  ·rw [h2] at g1
   injection g1 with g1
   injection g1 with e1 e2 e3
   subst e1;subst e2;subst e3
   exact .inr (.inl ⟨c,d1,t,fr,h1,g2,g3.trans h3,fun k hk=>(g4 k hk).trans (h4 k (by omega))⟩)
  ·rw [h2] at g1;cases g1
 ·rcases b with rfl|⟨d,d1,t',fr',g1,g2,g3,g4⟩|⟨fs,fs',cm,cm',g1,g2⟩
  ·exact .inr (.inr ⟨es,es',cl,cl',h1,h2⟩)
  ·rw [h2] at g1;cases g1
  ·exact .inr (.inr ⟨es,fs',cl,cm',h1,g2⟩)
structure Ext (h h':Hp) (ρ ρ':Env) (W W':World):Prop where
 agree:Agree h.n ρ ρ'
 mono:h.n≤h'.n
 kept:∀ c,c < W.heap.size→(∀ i b,rwM≤i→h.m i=some b→ρ.loc i≠c)→W'.heap[c]?=W.heap[c]?
 size:W.heap.size≤W'.heap.size
 own:∀ i b,rwM≤i→h'.m i=some b→ρ'.loc i < W.heap.size→∃ k c,rwM≤k∧h.m k=some c∧ρ.loc k=ρ'.loc i
 tape:W'.tape=W.tape
 os:W'.os=W.os
 output:W'.output=W.output
 surv:∀ i b',i < h.n→h'.m i=some b'→∃ b,h.m i=some b∧b.cells.size≤b'.cells.size∧Alike W.heap[ρ.loc i]? W'.heap[ρ.loc i]? b'.cells.size
theorem Ext.refl (h:Hp) (ρ:Env) (W:World):Ext h h ρ ρ W W :=
 ⟨fun _ _=>⟨rfl,rfl,rfl⟩,Nat.le_refl _,fun _ _ _=>rfl,Nat.le_refl _,fun i b hi hb _=>⟨i,b,hi,hb,rfl⟩,rfl,rfl,rfl,fun _ b _ hb=>⟨b,hb,Nat.le_refl _,.refl _ _⟩⟩
theorem Ext.trans {h h1 h2:Hp} {ρ ρ1 ρ2:Env} {W W1 W2:World} (e:Ext h h1 ρ ρ1 W W1) (e':Ext h1 h2 ρ1 ρ2 W1 W2):Ext h h2 ρ ρ2 W W2 where
 agree i hi:=by
  have h1:=e.agree i hi
  have h2:=e'.agree i (Nat.lt_of_lt_of_le hi e.mono)
  exact ⟨h2.1.trans h1.1,h2.2.1.trans h1.2.1,h2.2.2.trans h1.2.2⟩
 mono:=Nat.le_trans e.mono e'.mono
 kept c hc hn:=by
  rw [← e.kept c hc hn]
  refine e'.kept c (Nat.lt_of_lt_of_le hc e.size) fun i b hi hb he=>?_
  obtain ⟨k,d,hk0,hk,hl⟩:=e.own i b hi hb (by rw [he];exact hc)
  exact hn k d hk0 hk (by rw [hl,he])
 size:=Nat.le_trans e.size e'.size
 own i b hi hb hl:=by
  obtain ⟨k,d,hk0,hk,hl'⟩:=e'.own i b hi hb (Nat.lt_of_lt_of_le hl e.size)
  obtain ⟨k',d',hk0',hk',hl''⟩:=e.own k d hk0 hk (by rw [hl'];exact hl)
  exact ⟨k',d',hk0',hk',by rw [hl'',hl']⟩
 tape:=e'.tape.trans e.tape
 os:=e'.os.trans e.os
 output:=e'.output.trans e.output
 surv i b' hi hb':=by
  obtain ⟨b1,g1,g2,g3⟩:=e'.surv i b' (Nat.lt_of_lt_of_le hi e.mono) hb'
  obtain ⟨b,k1,k2,k3⟩:=e.surv i b1 hi g1
  rw [(e.agree i hi).1] at g3
  exact ⟨b,k1,Nat.le_trans k2 g2,k3.trans g2 g3⟩
theorem Fits.lt {ρ:Env} {i:Nat} {b:Blk} {W:World} (h:Fits ρ i b W.heap[ρ.loc i]?):ρ.loc i < W.heap.size:=by
 rcases h with ⟨_,_,_,he,_⟩|⟨_,he,_⟩
 ·exact (Array.getElem?_eq_some_iff.1 he).1
 ·exact (Array.getElem?_eq_some_iff.1 he).1
theorem Fits.agree {n:Nat} {ρ ρ':Env} (ha:Agree n ρ ρ') {i:Nat} (hi:i < n) {b:Blk} (hb:∀ v∈b.cells,bnd n v) {o:Option Obj} (h:Fits ρ i b o):Fits ρ' i b o :=
 h.conv rfl rfl (Array.map_congr_left fun v hv=>ren_agree ha v (hb v hv)) (fun _=>(ha i hi).2.1) (ha i hi).2.2 fun h=>h
def renT (ρ:Env):Target→Target
 | .fn fn captured=>.fn fn (captured.map (ren ρ))
 | t=>t
def renD (ρ:Env) (d:Deferred):Deferred:={ target:=renT ρ d.target,args:=d.args.map (ren ρ) }
def bndD (n:Nat) (d:Deferred):Prop:=(match d.target with|.fn _ captured=>∀ v∈captured,bnd n v|_=>True)∧∀ v∈d.args,bnd n v
def renA (ρ:Env) (a:Act):Act:={ tmps:=a.tmps.map (ren ρ),defers:=a.defers.map (renD ρ) }
def bndA (n:Nat) (a:Act):Prop:=(∀ v∈a.tmps,bnd n v)∧∀ d∈a.defers,bndD n d
theorem renD_agree {n:Nat} {ρ ρ':Env} (h:Agree n ρ ρ') {d:Deferred} (hd:bndD n d):renD ρ' d=renD ρ d:=by
 obtain ⟨t,args⟩:=d
 simp only [renD,bndD] at *
 congr 1
 ·cases t<;>simp only [renT] at hd ⊢
  congr 1
  exact Array.map_congr_left fun v hv=>ren_agree h v (hd.1 v hv)
 ·exact Array.map_congr_left fun v hv=>ren_agree h v (hd.2 v hv)
theorem renA_agree {n:Nat} {ρ ρ':Env} (h:Agree n ρ ρ') {a:Act} (ha:bndA n a):renA ρ' a=renA ρ a:=by
 unfold renA
 congr 1
 ·exact Array.map_congr_left fun v hv=>ren_agree h v (ha.1 v hv)
 ·exact List.map_congr_left fun d hd=>renD_agree h (ha.2 d hd)
theorem bndD_mono {n m:Nat} (hnm:n≤m) {d:Deferred} (h:bndD n d):bndD m d:=by
 obtain ⟨t,args⟩:=d
 refine ⟨?_,fun v hv=>bnd_mono hnm v (h.2 v hv)⟩
 cases t<;>simp only [bndD] at h ⊢
 exact fun v hv=>bnd_mono hnm v (h.1 v hv)
theorem bndA_mono {n m:Nat} (hnm:n≤m) {a:Act} (h:bndA n a):bndA m a:=⟨fun v hv=>bnd_mono hnm v (h.1 v hv),fun d hd=>bndD_mono hnm (h.2 d hd)⟩
def okOp (G:Nat):Operand→Prop
 | .const v=>bnd 0 v
 | .global g=>g < G
 | _=>True
theorem eval_ren {G:Nat} {ρ:Env} (hg:∀ g,g < G→ρ.loc g=g∧ρ.sh g=0) (a:Act) (x:Operand) (hx:okOp G x):(renA ρ a).eval x=ren ρ (a.eval x):=by
 cases x with
 | tmp t=>simp only [Act.eval,renA,Array.getD_eq_getD_getElem?,Array.getElem?_map];cases a.tmps[t]?<;>simp
 | const v=>exact (ren_free ρ v hx).symm
 | global g=>simp [Act.eval,renAddr,(hg g hx).1,(hg g hx).2]
 | func f=>simp [Act.eval]
theorem eval_bnd {G n:Nat} (hG:G≤n) {a:Act} (ha:bndA n a) (x:Operand) (hx:okOp G x):bnd n (a.eval x):=by
 cases x with
 | tmp t =>
  simp only [Act.eval,Array.getD_eq_getD_getElem?]
  cases h:a.tmps[t]? with
  | none=>simp
  | some v=>exact ha.1 v (Array.mem_of_getElem? h)
 | const v=>exact bnd_mono (Nat.zero_le _) v hx
 | global g=>simp only [Act.eval,bnd_ptr];exact Nat.lt_of_lt_of_le hx hG
 | func f=>simp [Act.eval]
theorem put_ren (ρ:Env) (a:Act) (d:Option Tmp) (v:Value):renA ρ (a.put d v)=(renA ρ a).put d (ren ρ v):=by
 cases d with
 | none=>rfl
 | some d=>simp [Act.put,renA]
theorem put_bnd {n:Nat} {a:Act} (ha:bndA n a) (d:Option Tmp) {v:Value} (hv:bnd n v):bndA n (a.put d v):=by
 cases d with
 | none=>exact ha
 | some d =>
  refine ⟨fun u hu=>?_,ha.2⟩
  rcases Array.mem_or_eq_of_mem_setIfInBounds hu with h|h
  ·exact ha.1 u h
  ·rw [h];exact hv
end Go.AH
namespace Go.AH
def Post (P:Program) (h:Hp) (ρ:Env) (W:World) (a':Act) (h':Hp) (A:Act) (W':World):Prop :=
 ∃ ρ',A=renA ρ' a'∧bndA h'.n a'∧HOK P.globals.size h' ρ' W'∧Ext h h' ρ ρ' W W'
def TC (P:Program) (c:Code) (a:Act) (h:Hp) (x:Exit) (a':Act) (h':Hp):Prop :=
 bndA h.n a→∀ ρ W,HOK P.globals.size h ρ W→c.wp P (fun e A W'=>e=x∧Post P h ρ W a' h' A W') (renA ρ a) W
def TF (P:Program) (f:FuncId) (args:Array Value) (h:Hp) (v:Value) (h':Hp):Prop :=
 (∀ x∈args,bnd h.n x)→∀ ρ W,HOK P.globals.size h ρ W →
  Calls P f (args.map (ren ρ)) W fun e W'=>∃ ρ',e=.returned (ren ρ' v)∧bnd h'.n v∧HOK P.globals.size h' ρ' W'∧Ext h h' ρ ρ' W W'
variable {P:Program}
theorem Post.here {h:Hp} {ρ:Env} {W:World} {a:Act} (hb:bndA h.n a) (ho:HOK P.globals.size h ρ W):Post P h ρ W a h (renA ρ a) W :=
 ⟨ρ,rfl,hb,ho,Ext.refl _ _ _⟩
theorem TC.skip (a:Act) (h:Hp):TC P .skip a h .normal a h:=fun hb _ _ ho=>wp_skip ⟨rfl,Post.here hb ho⟩
theorem TC.exit (id:Nat) (a:Act) (h:Hp):TC P (.exit id) a h (.exit id) a h:=fun hb _ _ ho=>wp_exit ⟨rfl,Post.here hb ho⟩
theorem TC.ret (a:Act) (h:Hp):TC P .ret a h .ret a h:=fun hb _ _ ho=>wp_ret ⟨rfl,Post.here hb ho⟩
theorem TC.seq {x y:Code} {a a1 a2:Act} {h h1 h2:Hp} {e:Exit} (hx:TC P x a h .normal a1 h1) (hy:TC P y a1 h1 e a2 h2):TC P (.seq x y) a h e a2 h2:=by
 intro hb ρ W ho
 refine wp_seq (wp_mono (hx hb ρ W ho) ?_)
 rintro e A W' ⟨rfl,ρ',rfl,hb',ho',hE⟩
 refine wp_mono (hy hb' ρ' W' ho') ?_
 rintro e A W'' ⟨rfl,ρ'',rfl,hb'',ho'',hE'⟩
 exact ⟨rfl,ρ'',rfl,hb'',ho'',hE.trans hE'⟩
theorem TC.seq_out {x y:Code} {a a1:Act} {h h1:Hp} {e:Exit} (hx:TC P x a h e a1 h1) (he:e≠.normal):TC P (.seq x y) a h e a1 h1:=by
 intro hb ρ W ho
 refine wp_seq (wp_mono (hx hb ρ W ho) ?_)
 rintro e A W' ⟨rfl,hp⟩
 cases e<;>first|exact absurd rfl he|exact ⟨rfl,hp⟩
theorem TC.cond {c:Operand} {x y:Code} {a a':Act} {h h':Hp} {e:Exit} {t:Bool} (hok:okOp P.globals.size c) (hc:a.eval c=.bool t) (hx:TC P (if t then x else y) a h e a' h') :
 TC P (.cond c x y) a h e a' h':=by
 intro hb ρ W ho
 exact wp_cond (t:=t) (by rw [eval_ren ho.glob _ _ hok,hc];simp) (hx hb ρ W ho)
def unblock (id:Nat):Exit→Exit
 | .exit i=>if i=id then .normal else .exit i
 | e=>e
theorem TC.block {id:Nat} {c:Code} {a a':Act} {h h':Hp} {e:Exit} (hc:TC P c a h e a' h'):TC P (.block id c) a h (unblock id e) a' h':=by
 intro hb ρ W ho
 refine wp_block (wp_mono (hc hb ρ W ho) ?_)
 rintro e A W' ⟨rfl,hp⟩
 cases e<;>simp only [Exit.inBlock,unblock]
 case exit i=>by_cases hi:i=id<;>simp [hi,hp]
 all_goals exact ⟨trivial,hp⟩
def TR (P:Program) (n:Nat) (c:Code) (a:Act) (h:Hp) (x:Exit) (a':Act) (h':Hp):Prop :=
 bndA h.n a→∀ ρ W,HOK P.globals.size h ρ W→Code.rounds P c (fun e A W'=>e=x∧Post P h ρ W a' h' A W') n (renA ρ a) W
theorem rounds_mono {c:Code} {Q Q':Exit→Act→World→Prop} (hq:∀ e a w,Q e a w→Q' e a w):∀ (n:Nat) (a:Act) (w:World),Code.rounds P c Q n a w→Code.rounds P c Q' n a w:=by
 intro n
 induction n with
 | zero=>intro a w h;exact h.elim
 | succ n ih =>
  intro a w h
  rw [rounds_succ] at h ⊢
  refine wp_mono h ?_
  intro e a w hh
  cases e<;>first|exact ih _ _ hh|exact hq _ _ _ hh
theorem TR.out {n:Nat} {c:Code} {a a':Act} {h h':Hp} {e:Exit} (hc:TC P c a h e a' h') (he:e≠.normal):TR P (n+1) c a h e a' h':=by
 intro hb ρ W ho
 rw [rounds_succ]
 refine wp_mono (hc hb ρ W ho) ?_
 rintro e A W' ⟨rfl,hp⟩
 cases e<;>first|exact absurd rfl he|exact ⟨rfl,hp⟩
theorem TR.next {n:Nat} {c:Code} {a a1 a2:Act} {h h1 h2:Hp} {e:Exit} (hc:TC P c a h .normal a1 h1) (hr:TR P n c a1 h1 e a2 h2):TR P (n+1) c a h e a2 h2:=by
 intro hb ρ W ho
 rw [rounds_succ]
 refine wp_mono (hc hb ρ W ho) ?_
 rintro e A W' ⟨rfl,ρ',rfl,hb',ho',hE⟩
 refine rounds_mono ?_ n _ _ (hr hb' ρ' W' ho')
 rintro e A W'' ⟨rfl,ρ'',rfl,hb'',ho'',hE'⟩
 exact ⟨rfl,ρ'',rfl,hb'',ho'',hE.trans hE'⟩
theorem TR.loop {n:Nat} {c:Code} {a a':Act} {h h':Hp} {e:Exit} (hr:TR P n c a h e a' h'):TC P (.loop c) a h e a' h' :=
 fun hb ρ W ho=>wp_loop_rounds n (hr hb ρ W ho)
end Go.AH
namespace Go.AH
variable {P:Program}
def TX (P:Program) (o:Oper) (ev:Operand→Value) (h:Hp) (v:Value) (h':Hp):Prop :=
 (∀ x∈o.op.operands,bnd h.n (ev x))→∀ ρ W,HOK P.globals.size h ρ W→∀ (A:Act) (K:Act→World→Prop) (Q:Exit→Act→World→Prop),
  (∀ x∈o.op.operands,A.eval x=ren ρ (ev x)) →
  (∀ ρ' W',bnd h'.n v→HOK P.globals.size h' ρ' W'→Ext h h' ρ ρ' W W'→K (A.put o.dst (ren ρ' v)) W')→o.wp P A W K Q
theorem TX.value {o:Oper} {ev:Operand→Value} {h h':Hp} {v:Value}
 (hrun:(∀ x∈o.op.operands,bnd h.n (ev x))→∀ ρ W (ev':Operand→Value),HOK P.globals.size h ρ W→(∀ x∈o.op.operands,ev' x=ren ρ (ev x)) →
  ∃ ρ' W',(execOp ev' o).run P W=.ok (.value (ren ρ' v)) W'∧bnd h'.n v∧HOK P.globals.size h' ρ' W'∧Ext h h' ρ ρ' W W'):TX P o ev h v h':=by
 intro hb ρ W ho A K Q hA hK
 obtain ⟨ρ',W',hr,hv,ho',hE⟩:=hrun hb ρ W A.eval ho hA
 unfold Oper.wp
 rw [hr]
 exact hK ρ' W' hv ho' hE
theorem TX.done {o:Oper} {ev:Operand→Value} {h h':Hp}
 (hrun:(∀ x∈o.op.operands,bnd h.n (ev x))→∀ ρ W (ev':Operand→Value),HOK P.globals.size h ρ W→(∀ x∈o.op.operands,ev' x=ren ρ (ev x)) →
  ∃ ρ' W',(execOp ev' o).run P W=.ok .skip W'∧HOK P.globals.size h' ρ' W'∧Ext h h' ρ ρ' W W'):TX P o ev h undef h':=by
 intro hb ρ W ho A K Q hA hK
 obtain ⟨ρ',W',hr,ho',hE⟩:=hrun hb ρ W A.eval ho hA
 unfold Oper.wp
 rw [hr]
 have:=hK ρ' W' (by simp) ho' hE
 rw [ren_undef] at this
 exact this
theorem TX.still {o:Oper} {ev:Operand→Value} {h:Hp} {v:Value} (hv:(∀ x∈o.op.operands,bnd h.n (ev x))→bnd h.n v)
 (hrun:∀ ρ W (ev':Operand→Value),HOK P.globals.size h ρ W→(∀ x∈o.op.operands,ev' x=ren ρ (ev x))→(execOp ev' o).run P W=.ok (.value (ren ρ v)) W):TX P o ev h v h :=
 .value fun hb ρ W ev' ho he=>⟨ρ,W,hrun ρ W ev' ho he,hv hb,ho,Ext.refl _ _ _⟩
def Hp.set (h:Hp) (i:Nat) (b:Blk):Hp:={ h with m:=fun j=>if j=i then some b else h.m j }
def Hp.push (h:Hp) (b:Blk):Hp:={ m:=fun j=>if j=h.n then some b else h.m j,n:=h.n+1 }
def Hp.kill (h:Hp) (i:Nat):Hp:={ h with m:=fun j=>if j=i then none else h.m j }
section
variable {G:Nat} {h:Hp} {ρ:Env} {W:World}
theorem HOK.cell (ho:HOK G h ρ W) {a:Addr} {b:Blk} {v:Value} (hb:h.m a.block=some b) (hs:a.spot=none) (hv:b.cells[a.off]?=some v):W.cell? (renAddr ρ a)=some (ren ρ v):=by
 have hlt:a.off < b.cells.size:=(Array.getElem?_eq_some_iff.1 hv).1
 rcases ho.fits _ _ hb with ⟨pre,tail,fr,he,hp,_⟩|⟨_,_,h0,_⟩
 case inr=>rw [h0] at hlt;exact absurd hlt (by simp)
 simp only [World.cell?,renAddr,he,hs]
 simp only [Option.isSome_none,Bool.false_eq_true,if_false]
 rw [Array.getElem?_append_left (by simp;omega),Array.getElem?_append_right (by omega),show a.off+ρ.sh a.block - pre.size=a.off by omega]
 simp [hv]
theorem HOK.free (ho:HOK G h ρ W) {a:Addr} {b:Blk} (hw:rwM≤a.block) (hb:h.m a.block=some b) (hlt:a.off < b.cells.size):W.frozen? (renAddr ρ a)=false:=by
 obtain ⟨tail,fr,he,hc,hf,_,hs⟩:=(ho.fits _ _ hb).own hw (.inl (by omega))
 have h1:W.heap[(renAddr ρ a).block]?=some (.cells (b.cells.map (ren ρ)++tail) b.elem fr):=he
 have:=hf a.off (by omega)
 obtain ⟨lo,hi⟩:=fr
 simp only [World.frozen?,h1]
 simp only at this
 cases hd:(decide (lo≤(renAddr ρ a).off) && decide ((renAddr ρ a).off < hi)) with
 | false=>rfl
 | true=>simp only [renAddr,hs,Nat.add_zero,Bool.and_eq_true] at hd;exact absurd ⟨of_decide_eq_true hd.1,of_decide_eq_true hd.2⟩ this
theorem HOK.write (ho:HOK G h ρ W) {a:Addr} {b:Blk} {v:Value} (hw:rwM≤a.block) (hb:h.m a.block=some b) (hs:a.spot=none) (hlt:a.off < b.cells.size) (hv:bnd h.n v) :
 HOK G (h.set a.block { b with cells:=b.cells.setIfInBounds a.off v }) ρ (W.setCell (renAddr ρ a) (ren ρ v))∧Ext h (h.set a.block { b with cells:=b.cells.setIfInBounds a.off v }) ρ ρ W (W.setCell (renAddr ρ a) (ren ρ v)):=by
 obtain ⟨tail,fr,he,hc,hf,htl,hsh,hem⟩:=(ho.fits _ _ hb).own' hw (.inl (by omega))
 have hloc:ρ.loc a.block < W.heap.size:=(Array.getElem?_eq_some_iff.1 he).1
 have hother:∀ c,c≠ρ.loc a.block→(W.setCell (renAddr ρ a) (ren ρ v)).heap[c]?=W.heap[c]?:=by
  intro c hne
  simp only [World.setCell,renAddr,Array.getElem?_modify,if_neg (Ne.symm hne)]
 have hthis:(W.setCell (renAddr ρ a) (ren ρ v)).heap[ρ.loc a.block]?=some (.cells ((b.cells.setIfInBounds a.off v).map (ren ρ)++tail) b.elem fr):=by
  simp only [World.setCell,renAddr,Array.getElem?_modify,if_true,he,Option.map_some,hs,hsh,Nat.add_zero,Option.isSome_none,Bool.false_eq_true,if_false]
  congr 2
  rw [Array.setIfInBounds_append_left (by simpa using hlt),Array.map_setIfInBounds]
 refine ⟨⟨fun i c hi=>?_,fun i c hi=>?_,fun i j c d hi0 hi hj hl=>?_,fun i c hi u hu=>?_,ho.glob,ho.gle,ho.gow⟩,⟨fun _ _=>⟨rfl,rfl,rfl⟩,Nat.le_refl _,fun c hc' hn=>hother c (fun e=>hn _ _ hw hb e.symm),by simp [World.setCell],fun i c hi0 hi _=>?_,rfl,rfl,rfl,fun i c hin hi=>?_⟩⟩
 ·simp only [Hp.set] at hi
  by_cases hia:i=a.block
  ·subst hia
   simp only [if_true,Option.some.injEq] at hi
   subst hi
   exact Fits.mk tail fr hthis (by simpa using hc) hf htl hsh hem
  ·rw [if_neg hia] at hi
   rw [hother _ (fun e=>hia (ho.inj _ _ _ _ hw hb hi e.symm).symm)]
   exact ho.fits i c hi
 ·simp only [Hp.set] at hi ⊢
  by_cases hia:i=a.block
  ·subst hia;exact ho.lt _ _ hb
  ·rw [if_neg hia] at hi;exact ho.lt _ _ hi
 ·simp only [Hp.set] at hi hj
  have hi':∃ c',h.m i=some c':=by
   by_cases hia:i=a.block
   ·subst hia;exact ⟨b,hb⟩
   ·rw [if_neg hia] at hi;exact ⟨c,hi⟩
  have hj':∃ c',h.m j=some c':=by
   by_cases hja:j=a.block
   ·subst hja;exact ⟨b,hb⟩
   ·rw [if_neg hja] at hj;exact ⟨d,hj⟩
  obtain ⟨c',hc'⟩:=hi'
  obtain ⟨d',hd'⟩:=hj'
  exact ho.inj _ _ _ _ hi0 hc' hd' hl
 ·simp only [Hp.set] at hi ⊢
  by_cases hia:i=a.block
  ·subst hia
   simp only [if_true,Option.some.injEq] at hi
   subst hi
   rcases Array.mem_or_eq_of_mem_setIfInBounds hu with h1|h1
   ·exact ho.bd _ _ hb u h1
   ·rw [h1];exact hv
  ·rw [if_neg hia] at hi;exact ho.bd _ _ hi u hu
 ·simp only [Hp.set] at hi
  by_cases hia:i=a.block
  ·subst hia;exact ⟨_,b,hw,hb,rfl⟩
  ·rw [if_neg hia] at hi;exact ⟨i,c,hi0,hi,rfl⟩
 ·simp only [Hp.set] at hi
  by_cases hia:i=a.block
  ·subst hia
   simp only [if_true,Option.some.injEq] at hi
   subst hi
   refine ⟨b,hb,by simp,.inr (.inl ⟨_,_,_,_,he,hthis,by simp,fun k hk=>?_⟩)⟩
   simp only [Array.size_setIfInBounds] at hk
   rw [Array.getElem?_append_right (by simpa using hk),Array.getElem?_append_right (by simpa using hk)]
   simp
  ·rw [if_neg hia] at hi
   rw [hother _ (fun e=>hia (ho.inj _ _ _ _ hw hb hi e.symm).symm)]
   exact ⟨c,hi,Nat.le_refl _,.refl _ _⟩
def Env.add (ρ:Env) (i l c:Nat):Env:={ loc:=fun j=>if j=i then l else ρ.loc j,cap:=fun j=>if j=i then c else ρ.cap j,sh:=fun j=>if j=i then 0 else ρ.sh j }
theorem Env.add_agree (ρ:Env) (n l c:Nat):Agree n ρ (ρ.add n l c):=by
 intro i hi
 have:i≠n:=by omega
 simp [Env.add,this]
theorem HOK.new (ho:HOK G h ρ W) {b:Blk} (hem:b.elem < mapM) (hv:∀ v∈b.cells,bnd (h.n+1) v) (tail:Array Value) (htl:∀ v∈tail,bnd 0 v) (fr:Nat × Nat) (hfr:∀ k,k < b.cells.size+tail.size→¬ (fr.1≤k∧k < fr.2))
 (W':World) (hW:W'.heap=W.heap.push (.cells (b.cells.map (ren (ρ.add h.n W.heap.size (b.cells.size+tail.size)))++tail) b.elem fr)) (h1:W'.tape=W.tape) (h2:W'.os=W.os) (h3:W'.output=W.output) :
 HOK G (h.push b) (ρ.add h.n W.heap.size (b.cells.size+tail.size)) W'∧Ext h (h.push b) ρ (ρ.add h.n W.heap.size (b.cells.size+tail.size)) W W':=by
 have hag:=ρ.add_agree h.n W.heap.size (b.cells.size+tail.size)
 have hold:∀ c,c < W.heap.size→W'.heap[c]?=W.heap[c]?:=by
  intro c hc
  rw [hW,Array.getElem?_push,if_neg (by omega)]
 have hnew:W'.heap[W.heap.size]?=some (.cells (b.cells.map (ren (ρ.add h.n W.heap.size (b.cells.size+tail.size)))++tail) b.elem fr):=by
  rw [hW];simp
 refine ⟨⟨fun i c hi=>?_,fun i c hi=>?_,fun i j c d hi0 hi hj hl=>?_,fun i c hi u hu=>?_,fun g hg=>?_,?_,ho.gow⟩,⟨hag,by simp [Hp.push],fun c hc' _=>hold c hc',by rw [hW];simp,fun i c hi0 hi hl=>?_,h1,h2,h3,fun i c hin hi=>?_⟩⟩
 ·simp only [Hp.push] at hi
  by_cases hia:i=h.n
  ·subst hia
   simp only [if_true,Option.some.injEq] at hi
   subst hi
   refine Fits.mk tail fr ?_ (by simp [Env.add]) (by simpa [Env.add] using hfr) htl (by simp [Env.add]) hem
   rw [show (ρ.add h.n W.heap.size (b.cells.size+tail.size)).loc h.n=W.heap.size by simp [Env.add]]
   exact hnew
  ·rw [if_neg hia] at hi
   have hlt:=ho.lt _ _ hi
   have hf:=(ho.fits i c hi).agree hag hlt (ho.bd _ _ hi)
   rw [(hag i hlt).1,hold _ (ho.fits i c hi).lt]
   exact hf
 ·simp only [Hp.push] at hi ⊢
  by_cases hia:i=h.n
  ·omega
  ·rw [if_neg hia] at hi;have:=ho.lt _ _ hi;omega
 ·simp only [Hp.push] at hi hj
  by_cases hia:i=h.n<;>by_cases hja:j=h.n
  ·omega
  ·rw [if_neg hja] at hj
   rw [hia,(hag j (ho.lt _ _ hj)).1] at hl
   simp only [Env.add,if_true] at hl
   have:=(ho.fits _ _ hj).lt;omega
  ·rw [if_neg hia] at hi
   rw [hja,(hag i (ho.lt _ _ hi)).1] at hl
   simp only [Env.add,if_true] at hl
   have:=(ho.fits _ _ hi).lt;omega
  ·rw [if_neg hia] at hi
   rw [if_neg hja] at hj
   rw [(hag i (ho.lt _ _ hi)).1,(hag j (ho.lt _ _ hj)).1] at hl
   exact ho.inj _ _ _ _ hi0 hi hj hl
 ·simp only [Hp.push] at hi ⊢
  by_cases hia:i=h.n
  ·subst hia
   simp only [if_true,Option.some.injEq] at hi
   subst hi
   exact hv u hu
  ·rw [if_neg hia] at hi;exact bnd_mono (Nat.le_succ _) u (ho.bd _ _ hi u hu)
 ·rw [(hag g (Nat.lt_of_lt_of_le hg ho.gn)).1,(hag g (Nat.lt_of_lt_of_le hg ho.gn)).2.2];exact ho.glob g hg
 ·simp only [Hp.push];have:=ho.gle;omega
 ·simp only [Hp.push] at hi
  by_cases hia:i=h.n
  ·subst hia;simp [Env.add] at hl
  ·rw [if_neg hia] at hi
   exact ⟨i,c,hi0,hi,((hag i (ho.lt _ _ hi)).1).symm⟩
 ·simp only [Hp.push] at hi
  rw [if_neg (by omega)] at hi
  rw [hold _ (ho.fits i c hi).lt]
  exact ⟨c,hi,Nat.le_refl _,.refl _ _⟩
theorem HOK.more (ho:HOK G h ρ W) {i:Nat} {b:Blk} (hw:rwM≤i) (hb:h.m i=some b) (hem:b.elem < mapM) {k:Nat} (hk:b.cells.size+k≤ρ.cap i) :
 ∃ more:Array Value,more.size=k∧(∀ v∈more,bnd 0 v)∧HOK G (h.set i { b with cells:=b.cells++more }) ρ W∧Ext h (h.set i { b with cells:=b.cells++more }) ρ ρ W W:=by
 obtain ⟨tail,fr,he,hc,hf,htl,hsh⟩:=(ho.fits _ _ hb).own hw (.inr hem)
 have hmem:∀ v∈tail.extract 0 k,bnd 0 v:=by
  intro v hv
  obtain ⟨m,_,e⟩:=Array.mem_extract_iff_getElem.1 hv
  rw [← e];exact htl _ (Array.getElem_mem _)
 have hsz:(tail.extract 0 k).size=k:=by simp;omega
 refine ⟨tail.extract 0 k,hsz,hmem,⟨fun j c hj=>?_,fun j c hj=>?_,fun j l c d hj0 hj hl he=>?_,fun j c hj u hu=>?_,ho.glob,ho.gle,ho.gow⟩,⟨fun _ _=>⟨rfl,rfl,rfl⟩,Nat.le_refl _,fun _ _ _=>rfl,Nat.le_refl _,fun j c hj0 hj _=>?_,rfl,rfl,rfl,fun j c hjn hj=>?_⟩⟩
 ·simp only [Hp.set] at hj
  by_cases hji:j=i
  ·subst hji
   simp only [if_true,Option.some.injEq] at hj
   subst hj
   refine Fits.mk (tail.extract k tail.size) fr ?_ (by simp;omega) hf (fun v hv=>?_) hsh hem
   ·rw [he]
    congr 2
    rw [Array.map_append,Array.append_assoc]
    congr 1
    rw [Array.map_congr_left (g:=id) fun v hv=>ren_free ρ v (hmem v hv)]
    rw [Array.map_id,Array.extract_append_extract]
    rw [Nat.max_eq_right (by omega),Nat.min_eq_left (by omega)]
    simp
   ·obtain ⟨m,_,e⟩:=Array.mem_extract_iff_getElem.1 hv
    rw [← e];exact htl _ (Array.getElem_mem _)
  ·rw [if_neg hji] at hj;exact ho.fits j c hj
 ·simp only [Hp.set] at hj ⊢
  by_cases hji:j=i
  ·subst hji;exact ho.lt _ _ hb
  ·rw [if_neg hji] at hj;exact ho.lt _ _ hj
 ·simp only [Hp.set] at hj hl
  have h1:∃ c',h.m j=some c':=by
   by_cases hji:j=i
   ·subst hji;exact ⟨b,hb⟩
   ·rw [if_neg hji] at hj;exact ⟨c,hj⟩
  have h2:∃ c',h.m l=some c':=by
   by_cases hji:l=i
   ·subst hji;exact ⟨b,hb⟩
   ·rw [if_neg hji] at hl;exact ⟨d,hl⟩
  obtain ⟨_,h1⟩:=h1
  obtain ⟨_,h2⟩:=h2
  exact ho.inj _ _ _ _ hj0 h1 h2 he
 ·simp only [Hp.set] at hj ⊢
  by_cases hji:j=i
  ·subst hji
   simp only [if_true,Option.some.injEq] at hj
   subst hj
   rcases Array.mem_append.1 hu with h1|h1
   ·exact ho.bd _ _ hb u h1
   ·exact bnd_mono (Nat.zero_le _) u (hmem u h1)
  ·rw [if_neg hji] at hj;exact ho.bd _ _ hj u hu
 ·simp only [Hp.set] at hj
  by_cases hji:j=i
  ·subst hji;exact ⟨_,b,hw,hb,rfl⟩
  ·rw [if_neg hji] at hj;exact ⟨j,c,hj0,hj,rfl⟩
 ·simp only [Hp.set] at hj
  by_cases hji:j=i
  ·subst hji
   simp only [if_true,Option.some.injEq] at hj
   subst hj
   exact ⟨b,hb,by simp,.refl _ _⟩
  ·rw [if_neg hji] at hj;exact ⟨c,hj,Nat.le_refl _,.refl _ _⟩
theorem HOK.rename (ho:HOK G h ρ W) {i:Nat} {b:Blk} (hw:rwM≤i) (hb:h.m i=some b) :
 HOK G ((h.kill i).push b) (ρ.add h.n (ρ.loc i) (ρ.cap i)) W∧Ext h ((h.kill i).push b) ρ (ρ.add h.n (ρ.loc i) (ρ.cap i)) W W:=by
 have hag:=ρ.add_agree h.n (ρ.loc i) (ρ.cap i)
 have hin:i < h.n:=ho.lt _ _ hb
 have key:∀ j c,((h.kill i).push b).m j=some c→(j=h.n∧c=b)∨(j≠h.n∧j≠i∧h.m j=some c):=by
  intro j c hj
  change (if j=h.n then some b else if j=i then none else h.m j)=some c at hj
  by_cases hjn:j=h.n
  ·rw [if_pos hjn] at hj;injection hj with hj;exact .inl ⟨hjn,hj.symm⟩
  ·rw [if_neg hjn] at hj
   by_cases hji:j=i
   ·rw [if_pos hji] at hj;cases hj
   ·rw [if_neg hji] at hj;exact .inr ⟨hjn,hji,hj⟩
 have hnew:(ρ.add h.n (ρ.loc i) (ρ.cap i)).loc h.n=ρ.loc i∧(ρ.add h.n (ρ.loc i) (ρ.cap i)).cap h.n=ρ.cap i∧(ρ.add h.n (ρ.loc i) (ρ.cap i)).sh h.n=0:=by simp [Env.add]
 refine ⟨⟨fun j c hj=>?_,fun j c hj=>?_,fun j l c d hj0 hj hl he=>?_,fun j c hj u hu=>?_,fun g hg=>?_,?_,ho.gow⟩,⟨hag,by simp [Hp.push,Hp.kill],fun _ _ _=>rfl,Nat.le_refl _,fun j c hj0 hj _=>?_,rfl,rfl,rfl,fun j c hjn hj=>?_⟩⟩
 ·rcases key j c hj with ⟨rfl,rfl⟩|⟨hjn,hji,hj'⟩
  ·refine (ho.fits _ _ hb).conv (by rw [hnew.1]) rfl (Array.map_congr_left fun v hv=>ren_agree hag v (ho.bd _ _ hb v hv)) (fun _=>hnew.2.1) ?_ fun _=>hw
   rw [hnew.2.2,(ho.fits _ _ hb).sh0 hw]
  ·rw [(hag j (ho.lt _ _ hj')).1]
   exact (ho.fits _ _ hj').agree hag (ho.lt _ _ hj') (ho.bd _ _ hj')
 ·rcases key j c hj with ⟨rfl,rfl⟩|⟨hjn,hji,hj'⟩
  ·simp [Hp.push,Hp.kill]
  ·have:=ho.lt _ _ hj';simp [Hp.push,Hp.kill];omega
 ·rcases key j c hj with ⟨rfl,rfl⟩|⟨hjn,hji,hj'⟩<;>rcases key l d hl with ⟨rfl,rfl⟩|⟨hln,hli,hl'⟩
  ·rfl
  ·rw [hnew.1,(hag l (ho.lt _ _ hl')).1] at he
   exact absurd (ho.inj _ _ _ _ hw hb hl' he).symm hli
  ·rw [hnew.1,(hag j (ho.lt _ _ hj')).1] at he
   exact absurd (ho.inj _ _ _ _ hw hb hj' he.symm).symm hji
  ·rw [(hag j (ho.lt _ _ hj')).1,(hag l (ho.lt _ _ hl')).1] at he
   exact ho.inj _ _ _ _ hj0 hj' hl' he
 ·have hn:((h.kill i).push b).n=h.n+1:=rfl
  rw [hn]
  rcases key j c hj with ⟨rfl,rfl⟩|⟨hjn,hji,hj'⟩
  ·exact bnd_mono (Nat.le_succ _) u (ho.bd _ _ hb u hu)
  ·exact bnd_mono (Nat.le_succ _) u (ho.bd _ _ hj' u hu)
 ·rw [(hag g (Nat.lt_of_lt_of_le hg ho.gn)).1,(hag g (Nat.lt_of_lt_of_le hg ho.gn)).2.2];exact ho.glob g hg
 ·have:=ho.gle;simp [Hp.push,Hp.kill];omega
 ·rcases key j c hj with ⟨rfl,rfl⟩|⟨hjn,hji,hj'⟩
  ·exact ⟨i,c,hw,hb,hnew.1.symm⟩
  ·exact ⟨j,c,hj0,hj',((hag j (ho.lt _ _ hj')).1).symm⟩
 ·rcases key j c hj with ⟨rfl,rfl⟩|⟨_,hji,hj'⟩
  ·omega
  ·exact ⟨c,hj',Nat.le_refl _,.refl _ _⟩
end
end Go.AH
namespace Go.AH
variable {P:Program} {o:Oper} {ev:Operand→Value} {h:Hp}
def aggD:TypeDesc→Bool
 | .struct _|.array _ _=>true
 | _=>false
theorem rU {t:TypeId} {d:TypeDesc} (hd:P.underlying t=some d) (W:World):(underlying t).run P W=.ok d W:=run_underlying hd W
theorem rI {t:TypeId} {i:TypeInfo} (hi:P.info? t=some i) (W:World):(typeInfo t).run P W=.ok i W:=by simp [typeInfo,hi]
theorem rS {t:TypeId} {i:TypeInfo} (hi:P.info? t=some i) (W:World):(sizeOf t).run P W=.ok i.size W:=by simp [sizeOf,rI hi]
theorem rZ {t:TypeId} {i:TypeInfo} {z:Value} (hi:P.info? t=some i) (hz:i.zero=some z) (W:World):(zeroValue t).run P W=.ok z W:=by simp [zeroValue,rI hi,hz]
theorem rA {t:TypeId} {d:TypeDesc} (hd:P.underlying t=some d) (W:World):(isAgg t).run P W=.ok (aggD d) W:=by
 unfold isAgg;rw [Sem.run_bind,rU hd];cases d<;>rfl
theorem addr_add (ρ:Env) (a:Addr) (n:Nat):(renAddr ρ a).add n=renAddr ρ (a.add n):=by
 unfold Addr.add renAddr;by_cases hn:n=0
 ·simp [hn]
 ·simp [hn,Nat.add_right_comm]
theorem add_block (a:Addr) (n:Nat):(a.add n).block=a.block:=by unfold Addr.add;split<;>rfl
theorem TX.move {x:Operand} (ho:o.op=.move x):TX P o ev h (ev x) h :=
 .still (fun hb=>hb x (by simp [ho,Op.operands])) fun ρ W ev' _ he=>by simp [execOp,ho,he x (by simp [ho,Op.operands])]
theorem TX.assign {x:Operand} (ho:o.op=.assign x):TX P o ev h (ev x) h :=
 .still (fun hb=>hb x (by simp [ho,Op.operands])) fun ρ W ev' _ he=>by simp [execOp,ho,he x (by simp [ho,Op.operands])]
theorem TX.pick {c x y:Operand} {t:Bool} (ho:o.op=.pick c x y) (hc:ev c=.bool t):TX P o ev h (if t then ev x else ev y) h :=
 .still (fun hb=>by cases t;exact hb y (by simp [ho,Op.operands]);exact hb x (by simp [ho,Op.operands])) fun ρ W ev' _ he=>by
  have h1:=he c (by simp [ho,Op.operands])
  have h2:=he x (by simp [ho,Op.operands])
  have h3:=he y (by simp [ho,Op.operands])
  rw [hc] at h1
  simp only [ren_bool] at h1
  cases t<;>simp [execOp,ho,h1,h2,h3,asBool]
theorem execOp_congr {e1 e2:Operand→Value} (hs:∀ cs b,o.op≠.select cs b) (he:∀ x∈o.op.operands,e1 x=e2 x):execOp e1 o=execOp e2 o:=by
 obtain ⟨dst,op,type,pos,after,guard⟩:=o
 simp only at hs he
 have hmap:∀ (ps:Array (Nat × Operand)),(∀ x∈(ps.toList.map (·.2)).toArray,e1 x=e2 x)→ps.map (fun (i,x)=>(i,e1 x))=ps.map (fun (i,x)=>(i,e2 x)):=by
  intro ps hp
  refine Array.map_congr_left fun p hp'=>?_
  obtain ⟨i,x⟩:=p
  simp only
  rw [hp x (by simp;exact ⟨i,by simpa using hp'⟩)]
 have harr:∀ (xs:Array Operand),(∀ x∈xs,e1 x=e2 x)→xs.map e1=xs.map e2:=fun xs hx=>Array.map_congr_left hx
 have hopt:∀ (x:Option Operand),(∀ y∈x.toArray,e1 y=e2 y)→x.map e1=x.map e2:=by
  intro x hx
  cases x with
  | none=>rfl
  | some y=>simp [hx y (by simp)]
 have hcall:∀ (c:Call) (t:TypeId),(∀ x∈c.operands,e1 x=e2 x)→resolve e1 c t=resolve e2 c t:=by
  intro c t hc
  obtain ⟨callee,args,ats⟩:=c
  have h1:args.map e1=args.map e2:=harr _ fun x hx=>hc x (by simp [Call.operands,hx])
  cases callee with
  | value f=>simp [resolve,h1,hc f (by simp [Call.operands])]
  | invoke r m=>simp [resolve,h1,hc r (by simp [Call.operands])]
  | builtin b=>simp [resolve,h1]
 cases op<;>simp only [Op.operands] at he<;>simp only [execOp]
 case select cs b=>exact absurd rfl (hs cs b)
 case build t ps=>rw [hmap ps he]
 case buildSlice t l ps=>rw [hmap ps he]
 case makeFunc fn f c=>rw [harr f fun x hx=>he x (by simp [hx]),harr c fun x hx=>he x (by simp [hx])]
 case makeMap t r=>rw [hopt r he]
 case slice t x l hh m=>rw [he x (by simp),hopt l fun y hy=>he y (by simp [hy]),hopt hh fun y hy=>he y (by simp [hy]),hopt m fun y hy=>he y (by simp [hy])]
 case call c=>rw [hcall c _ he]
 case go c=>rw [hcall c _ he]
 case defer c=>rw [hcall c _ he]
 all_goals (try simp_all)
theorem TX.pure {v:Value} (hs:∀ cs b,o.op≠.select cs b) (hf:∀ x∈o.op.operands,bnd 0 (ev x)) (hrun:∀ W,(execOp ev o).run P W=.ok (.value v) W) (hv:bnd 0 v):TX P o ev h v h :=
 .still (fun _=>bnd_mono (Nat.zero_le _) v hv) fun ρ W ev' _ he=>by
  rw [execOp_congr hs (e2:=ev) fun x hx=>(he x hx).trans (ren_free ρ _ (hf x hx)),hrun W,ren_free ρ v hv]
theorem TX.extract {x:Operand} {i:Nat} {vs:Array Value} {v:Value} (ho:o.op=.extract x i) (hx:ev x=.tuple vs) (hi:vs[i]?=some v):TX P o ev h v h :=
 .still (fun hb=>by
  have h1:=hb x (by simp [ho,Op.operands])
  rw [hx,bnd_tuple] at h1
  exact h1 v (Array.mem_of_getElem? hi)) fun ρ W ev' _ he=>by
  have h1:=he x (by simp [ho,Op.operands])
  rw [hx,ren_tuple] at h1
  simp [execOp,ho,h1,Instr.extract,hi]
theorem TX.field1 {x:Operand} {t:TypeId} {i:Nat} {fs:Array Field} {f:Field} {d:TypeDesc} {cs:Array Value} {v:Value} (ho:o.op=.field t x i) (ht:P.underlying t=some (.struct fs)) (hf:fs[i]?=some f)
 (hd:P.underlying f.type=some d) (ha:aggD d=false) (hx:ev x=.agg cs) (hv:cs[f.offset]?=some v):TX P o ev h v h :=
 .still (fun hb=>by
  have h1:=hb x (by simp [ho,Op.operands])
  rw [hx,bnd_agg] at h1
  exact h1 v (Array.mem_of_getElem? hv)) fun ρ W ev' _ he=>by
  have h1:=he x (by simp [ho,Op.operands])
  rw [hx,ren_agg] at h1
  simp [execOp,ho,h1,Instr.field,rU ht,hf,asAgg,part,rA hd,ha,hv]
theorem TX.nilCheck {x:Operand} {a:Addr} (ho:o.op=.nilCheck x) (hx:ev x=.pointer (some a)):TX P o ev h (ev x) h :=
 .still (fun hb=>hb x (by simp [ho,Op.operands])) fun ρ W ev' _ he=>by
  have h1:=he x (by simp [ho,Op.operands])
  rw [hx,ren_ptr] at h1
  simp [execOp,ho,h1,hx]
theorem TX.fieldAddr {x:Operand} {t:TypeId} {i:Nat} {fs:Array Field} {f:Field} {fi:TypeInfo} {a:Addr} (ho:o.op=.fieldAddr t x i) (ht:P.underlying t=some (.struct fs)) (hf:fs[i]?=some f)
 (hi:P.info? f.type=some fi) (hz:fi.size≠0) (hx:ev x=.pointer (some a)):TX P o ev h (.pointer (some (a.add f.offset))) h :=
 .still (fun hb=>by
  have h1:=hb x (by simp [ho,Op.operands])
  rw [hx,bnd_ptr] at h1
  rw [bnd_ptr,add_block];exact h1) fun ρ W ev' _ he=>by
  have h1:=he x (by simp [ho,Op.operands])
  rw [hx,ren_ptr] at h1
  simp [execOp,ho,h1,Instr.fieldAt,rU ht,hf,Instr.sureAddr,fieldPlace,rS hi,hz,addr_add]
theorem TX.indexAddr {x y:Operand} {t e:TypeId} {ei:TypeInfo} {a:Addr} {len cap:Nat} {k:IntKind} {i:Int} (ho:o.op=.indexAddr t x y) (ht:P.underlying t=some (.slice e)) (hi:P.info? e=some ei)
 (hx:ev x=.slice (some a) len cap) (hy:ev y=.int k i) (h0:0≤i) (h1:i < len):TX P o ev h (.pointer (some (a.add (i.toNat * ei.size)))) h :=
 .still (fun hb=>by
  have h1:=hb x (by simp [ho,Op.operands])
  rw [hx,bnd_slice] at h1
  rw [bnd_ptr,add_block];exact h1) fun ρ W ev' _ he=>by
  have g1:=he x (by simp [ho,Op.operands])
  have g2:=he y (by simp [ho,Op.operands])
  rw [hx,ren_slice] at g1
  rw [hy,ren_int] at g2
  simp [execOp,ho,g1,g2,Instr.indexAt,rU ht,asIntOf,rS hi,h0,h1,addr_add]
theorem TX.indexAddrA {x y:Operand} {t e:TypeId} {ei:TypeInfo} {a:Addr} {len:Nat} {k:IntKind} {i:Int} (ho:o.op=.indexAddr t x y) (ht:P.underlying t=some (.array len e)) (hi:P.info? e=some ei)
 (hx:ev x=.pointer (some a)) (hy:ev y=.int k i) (h0:0≤i) (h1:i < len):TX P o ev h (.pointer (some (a.add (i.toNat * ei.size)))) h :=
 .still (fun hb=>by
  have h1:=hb x (by simp [ho,Op.operands])
  rw [hx,bnd_ptr] at h1
  rw [bnd_ptr,add_block];exact h1) fun ρ W ev' _ he=>by
  have g1:=he x (by simp [ho,Op.operands])
  have g2:=he y (by simp [ho,Op.operands])
  rw [hx,ren_ptr] at g1
  rw [hy,ren_int] at g2
  simp [execOp,ho,g1,g2,Instr.indexAt,rU ht,asIntOf,Instr.sureAddr,rS hi,h0,h1,addr_add]
theorem TX.lenSlice {x:Operand} {t e:TypeId} {A:Option Addr} {len cap:Nat} (ho:o.op=.call { callee:=.builtin .len,args:=#[x],argTypes:=#[t] }) (ht:P.underlying t=some (.slice e)) (hx:ev x=.slice A len cap) :
 TX P o ev h (.int .i64 len) h :=
 .still (fun _=>by simp) fun ρ W ev' _ he=>by
  have g1:=he x (by simp [ho,Op.operands,Call.operands])
  rw [hx] at g1
  cases A with
  | none=>rw [ren_slice_none] at g1;simp [execOp,ho,resolve,invoke,builtin,Builtin.len_,rU ht,g1,goInt]
  | some a=>rw [ren_slice] at g1;simp [execOp,ho,resolve,invoke,builtin,Builtin.len_,rU ht,g1,goInt]
theorem TX.load1 {x:Operand} {t:TypeId} {d:TypeDesc} {a:Addr} {b:Blk} {v:Value} (ho:o.op=.load t x) (ht:P.underlying t=some d) (hd:aggD d=false) (hx:ev x=.pointer (some a)) (hs:a.spot=none)
 (hb:h.m a.block=some b) (hv:b.cells[a.off]?=some v):TX P o ev h v h :=
 .value fun _ ρ W ev' hok he=>by
  have g1:=he x (by simp [ho,Op.operands])
  rw [hx,ren_ptr] at g1
  refine ⟨ρ,W,?_,hok.bd _ _ hb v (Array.mem_of_getElem? hv),hok,Ext.refl _ _ _⟩
  have hc:=hok.cell hb hs hv
  simp [execOp,ho,g1,Instr.loadAt,Instr.sureAddr,loadVar,rA ht,hd,hc]
theorem mem_ext {cs:Array Value} {i j:Nat} {v:Value} (hv:v∈cs.extract i j):v∈cs:=by
 obtain ⟨k,hk,e⟩:=Array.mem_extract_iff_getElem.1 hv
 rw [← e];exact Array.getElem_mem _
theorem run_loadN {G:Nat} {ρ:Env} {W:World} (hok:HOK G h ρ W) {a:Addr} {b:Blk} (hb:h.m a.block=some b) (hs:a.spot=none) {n:Nat} (hn:a.off+n≤b.cells.size) :
 (loadCells (renAddr ρ a) n).run P W=.ok ((b.cells.extract a.off (a.off+n)).map (ren ρ)) W:=by
 have hl:((b.cells.extract a.off (a.off+n)).map (ren ρ)).toList.length=n:=by simp;omega
 have:=run_loadCells_list (P:=P) (w:=W) (renAddr ρ a) ((b.cells.extract a.off (a.off+n)).map (ren ρ)).toList (by
  intro j v hv
  have hj:j < n:=by
   have:=(List.getElem?_eq_some_iff.1 hv).1;omega
  rw [addr_add]
  have hoff:(a.add j).off=a.off+j:=by unfold Addr.add;by_cases h0:j=0<;>simp [h0]
  have hspot:(a.add j).spot=none:=by unfold Addr.add;by_cases h0:j=0<;>simp [h0,hs]
  have hcell:b.cells[(a.add j).off]?=some (b.cells[a.off+j]'(by omega)):=by rw [hoff];exact Array.getElem?_eq_getElem _
  rw [hok.cell (by rw [add_block];exact hb) hspot hcell]
  rw [← hv]
  simp only [Array.toList_map,List.getElem?_map,Array.getElem?_toList,Array.getElem?_extract]
  have hlt2:j < min (a.off+n) b.cells.size - a.off:=by omega
  simp [hlt2,Array.getElem?_eq_getElem (show a.off+j < b.cells.size by omega)])
 rw [hl] at this
 rw [this]
theorem TX.loadN {x:Operand} {t:TypeId} {d:TypeDesc} {ti:TypeInfo} {a:Addr} {b:Blk} (ho:o.op=.load t x) (ht:P.underlying t=some d) (hd:aggD d=true) (hi:P.info? t=some ti) (hx:ev x=.pointer (some a)) (hs:a.spot=none)
 (hb:h.m a.block=some b) (hn:a.off+ti.size≤b.cells.size):TX P o ev h (.agg (b.cells.extract a.off (a.off+ti.size))) h :=
 .value fun _ ρ W ev' hok he=>by
  have g1:=he x (by simp [ho,Op.operands])
  rw [hx,ren_ptr] at g1
  refine ⟨ρ,W,?_,?_,hok,Ext.refl _ _ _⟩
  ·simp [execOp,ho,g1,Instr.loadAt,Instr.sureAddr,loadVar,rA ht,hd,rS hi,run_loadN hok hb hs hn]
  ·rw [bnd_agg];exact fun v hv=>hok.bd _ _ hb v (mem_ext hv)
def setFrom (cs:Array Value) (off:Nat):List Value→Array Value
 | []=>cs
 | v::vs=>setFrom (cs.setIfInBounds off v) (off+1) vs
theorem Hp.set_set (h:Hp) (i:Nat) (b c:Blk):(h.set i b).set i c=h.set i c:=by
 unfold Hp.set
 congr 1
 funext j
 by_cases hj:j=i<;>simp [hj]
theorem Hp.set_same {h:Hp} {i:Nat} {b:Blk} (hb:h.m i=some b):h.set i b=h:=by
 obtain ⟨m,n⟩:=h
 unfold Hp.set
 congr 1
 funext j
 by_cases hj:j=i
 ·subst hj;simp at hb ⊢;exact hb.symm
 ·simp [hj]
theorem run_storeN {G:Nat} {ρ:Env}:∀ (vs:List Value) (i:Nat) {h:Hp} {W:World} {a:Addr} {b:Blk},HOK G h ρ W→rwM≤a.block→h.m a.block=some b→a.spot=none→a.off+i+vs.length≤b.cells.size→(∀ v∈vs,bnd h.n v)→(∀ v∈vs,v.oneCell'=true) →
 ∃ W',(storeCells (renAddr ρ a) (vs.map (ren ρ)) i).run P W=.ok () W'∧HOK G (h.set a.block { b with cells:=setFrom b.cells (a.off+i) vs }) ρ W'∧Ext h (h.set a.block { b with cells:=setFrom b.cells (a.off+i) vs }) ρ ρ W W':=by
 intro vs
 induction vs with
 | nil =>
  intro i h W a b hok hw hb hs hn hv h1
  refine ⟨W,by simp [storeCells],?_⟩
  rw [setFrom,Hp.set_same hb]
  exact ⟨hok,Ext.refl _ _ _⟩
 | cons v vs ih =>
  intro i h W a b hok hw hb hs hn hv h1
  have hoff:(a.add i).off=a.off+i:=by unfold Addr.add;by_cases h0:i=0<;>simp [h0]
  have hspot:(a.add i).spot=none:=by unfold Addr.add;by_cases h0:i=0<;>simp [h0,hs]
  have hblk:(a.add i).block=a.block:=add_block a i
  simp only [List.length_cons] at hn
  have hlt:(a.add i).off < b.cells.size:=by omega
  have hcell:b.cells[(a.add i).off]?=some (b.cells[(a.add i).off]):=Array.getElem?_eq_getElem _
  have hc:=hok.cell (a:=a.add i) (by rw [hblk];exact hb) hspot hcell
  have hf:=hok.free (a:=a.add i) (by rw [hblk];exact hw) (by rw [hblk];exact hb) hlt
  obtain ⟨hok1,hE1⟩:=hok.write (a:=a.add i) (v:=v) (by rw [hblk];exact hw) (by rw [hblk];exact hb) hspot hlt (hv v (by simp))
  rw [hblk,hoff] at hok1 hE1
  have hone:(ren ρ v).oneCell'=true:=by
   have:=h1 v (by simp)
   revert this
   cases v with
   | pointer a=>cases a<;>simp [Value.oneCell']
   | slice a l c=>cases a<;>simp [Value.oneCell']
   | map a=>cases a<;>simp [Value.oneCell']
   | chan a=>cases a with
    | none=>intro h;rw [ren]<;>simp_all
    | some r=>rw [ren];simp [Value.oneCell']
   | _=>simp [Value.oneCell']
  obtain ⟨W',hr,hok2,hE2⟩:=ih (i+1) (a:=a) (b:={ b with cells:=b.cells.setIfInBounds (a.off+i) v }) hok1 hw (by simp [Hp.set]) hs (by simp;omega) (fun u hu=>hv u (by simp [hu])) (fun u hu=>h1 u (by simp [hu]))
  rw [Hp.set_set] at hok2 hE2
  refine ⟨W',?_,hok2,hE1.trans hE2⟩
  rw [List.map_cons,storeCells,Sem.run_bind,addr_add,run_store _ _ _ _ _ hone]
  simp only [hc,hf]
  exact hr
def oneCells (v:Value):Bool:=v.cells.all (·.oneCell')
theorem cells_ren (ρ:Env) (v:Value):(ren ρ v).cells=v.cells.map (ren ρ):=by
 cases v with
 | agg cs=>simp [Value.cells]
 | pointer a=>cases a<;>simp [Value.cells]
 | slice a l c=>cases a<;>simp [Value.cells]
 | map a=>cases a<;>simp [Value.cells]
 | chan a=>cases a with
  | none=>rw [ren]<;>simp [Value.cells];rw [ren]<;>simp
  | some r=>simp only [Value.cells];rw [ren];simp;rw [ren]
 | _=>simp [Value.cells]
theorem cells_bnd {n:Nat} {v:Value} (hv:bnd n v):∀ u∈v.cells,bnd n u:=by
 cases v with
 | agg cs=>simpa [Value.cells] using hv
 | _=>simp only [Value.cells,List.mem_toArray,List.mem_singleton];rintro u rfl;exact hv
theorem TX.store {x y:Operand} {t:TypeId} {ti:TypeInfo} {a:Addr} {b:Blk} (ho:o.op=.store t x y) (hi:P.info? t=some ti) (hx:ev x=.pointer (some a)) (hs:a.spot=none) (hw:rwM≤a.block)
 (hb:h.m a.block=some b) (hsz:(ev y).cells.size=ti.size) (hone:oneCells (ev y)=true) (hn:a.off+ti.size≤b.cells.size) :
 TX P o ev h undef (h.set a.block { b with cells:=setFrom b.cells a.off (ev y).cells.toList }) :=
 .done fun hbd ρ W ev' hok he=>by
  have g1:=he x (by simp [ho,Op.operands])
  have g2:=he y (by simp [ho,Op.operands])
  rw [hx,ren_ptr] at g1
  have hone':∀ v∈(ev y).cells.toList,v.oneCell'=true:=by
   intro v hv
   unfold oneCells at hone
   exact Array.all_eq_true'.1 hone v (by simpa using hv)
  obtain ⟨W',hr,hok',hE⟩:=run_storeN (P:=P) (ev y).cells.toList 0 (a:=a) hok hw hb hs (by simp [hsz];omega) (fun v hv=>cells_bnd (hbd y (by simp [ho,Op.operands])) v (by simpa using hv)) hone'
  refine ⟨ρ,W',?_,by simpa using hok',by simpa using hE⟩
  simp only [execOp,ho,g1,g2,Instr.storeAt,Instr.sureAddr,storeVar,Sem.run_bind,Sem.run_pure,Result.andThen_ok,rS hi]
  rw [if_neg (by rw [cells_ren];simp [hsz])]
  simp only [cells_ren,Result.andThen_ok,Array.toList_map,hr]
theorem TX.alloc {t:TypeId} {ti:TypeInfo} {z:Value} (ho:o.op=.alloc t) (hi:P.info? t=some ti) (hz:ti.zero=some z) (hzf:bnd 0 z) (hem:t < mapM) :
 TX P o ev h (.pointer (some ⟨h.n,0,none⟩)) (h.push ⟨z.cells,t⟩) :=
 .value fun _ ρ W ev' hok _=>by
  have hcb:∀ v∈z.cells,bnd 0 v:=cells_bnd hzf
  obtain ⟨hok',hE⟩:=hok.new (b:=⟨z.cells,t⟩) hem (fun v hv=>bnd_mono (Nat.zero_le _) v (hcb v hv)) #[] (by simp) (0,0) (by intro k _ hk;omega) { W with heap:=W.heap.push (.cells z.cells t) }
   (by simp only [Array.append_empty];rw [Array.map_congr_left (g:=id) fun v hv=>ren_free _ v (hcb v hv)];simp) rfl rfl rfl
  refine ⟨_,_,?_,by simp [Hp.push],hok',hE⟩
  simp [execOp,ho,Instr.alloc,rZ hi hz,newVar,newRow,renAddr,Env.add]
theorem TX.box {t:TypeId} {x:Operand} (ho:o.op=.box t x) (hem:t < mapM):TX P o ev h (.pointer (some ⟨h.n,0,none⟩)) (h.push ⟨(ev x).cells,t⟩) :=
 .value fun hbd ρ W ev' hok he=>by
  have g1:=he x (by simp [ho,Op.operands])
  have hb1:=cells_bnd (hbd x (by simp [ho,Op.operands]))
  obtain ⟨hok',hE⟩:=hok.new (b:=⟨(ev x).cells,t⟩) hem (fun v hv=>bnd_mono (Nat.le_succ _) v (hb1 v hv)) #[] (by simp) (0,0) (by intro k _ hk;omega) { W with heap:=W.heap.push (.cells (ren ρ (ev x)).cells t) }
   (by simp only [Array.append_empty,cells_ren];rw [Array.map_congr_left fun v hv=>(ren_agree (Env.add_agree ρ h.n _ _) v (hb1 v hv))]) rfl rfl rfl
  refine ⟨_,_,?_,by simp [Hp.push],hok',hE⟩
  simp [execOp,ho,g1,Instr.box,newVar,newRow,renAddr,Env.add]
end Go.AH
namespace Go.AH
variable {P:Program} {o:Oper} {ev:Operand→Value} {h:Hp}
theorem foldl_set_ren (ρ:Env) (off:Nat):∀ (l:List (Value × Nat)) (cs:Array Value),
 (l.map fun p=>(ren ρ p.1,p.2)).foldl (fun cs p=>cs.setIfInBounds (off+p.2) p.1) (cs.map (ren ρ))=(l.foldl (fun cs p=>cs.setIfInBounds (off+p.2) p.1) cs).map (ren ρ):=by
 intro l
 induction l with
 | nil=>intro cs;rfl
 | cons p l ih=>intro cs;simp only [List.map_cons,List.foldl_cons];rw [← Array.map_setIfInBounds,ih]
theorem foldl_set_mem (off:Nat) {Q:Value→Prop}:∀ (l:List (Value × Nat)) (cs:Array Value),(∀ v∈cs,Q v)→(∀ p∈l,Q p.1)→∀ v∈l.foldl (fun cs p=>cs.setIfInBounds (off+p.2) p.1) cs,Q v:=by
 intro l
 induction l with
 | nil=>intro cs hc _;exact hc
 | cons p l ih =>
  intro cs hc hl
  refine ih _ (fun v hv=>?_) (fun q hq=>hl q (by simp [hq]))
  rcases Array.mem_or_eq_of_mem_setIfInBounds hv with h1|h1
  ·exact hc v h1
  ·rw [h1];exact hl p (by simp)
theorem fill_ren (ρ:Env) (place:Nat→Option (Nat × Nat)):∀ (parts:List (Nat × Value)) (cells cs:Array Value),Instr.fill place cells parts=some cs →
 Instr.fill place (cells.map (ren ρ)) (parts.map fun p=>(p.1,ren ρ p.2))=some (cs.map (ren ρ)):=by
 intro parts
 induction parts with
 | nil=>intro cells cs hf;simp [Instr.fill] at hf ⊢;rw [hf]
 | cons p parts ih =>
  intro cells cs hf
  obtain ⟨i,v⟩:=p
  simp only [Instr.fill,List.map_cons] at hf ⊢
  cases hp:place i with
  | none=>simp [hp] at hf
  | some q =>
   obtain ⟨off,size⟩:=q
   simp only [hp] at hf ⊢
   by_cases hc:v.cells.size≠size || off+v.cells.size > cells.size
   ·rw [if_pos hc] at hf;cases hf
   ·rw [if_neg hc] at hf
    have hc':¬ ((ren ρ v).cells.size≠size || off+(ren ρ v).cells.size > (cells.map (ren ρ)).size):=by rw [cells_ren];simpa using hc
    rw [if_neg hc']
    have:=ih _ _ hf
    rw [← this]
    congr 1
    simp only [cells_ren,← Array.foldl_toList,Array.toList_zipIdx,Array.toList_map,List.zipIdx_map]
    exact foldl_set_ren ρ off _ cells
theorem fill_mem {Q:Value→Prop} (place:Nat→Option (Nat × Nat)):∀ (parts:List (Nat × Value)) (cells cs:Array Value),Instr.fill place cells parts=some cs→(∀ v∈cells,Q v)→(∀ p∈parts,∀ v∈p.2.cells,Q v)→∀ v∈cs,Q v:=by
 intro parts
 induction parts with
 | nil=>intro cells cs hf hc _;simp [Instr.fill] at hf;subst hf;exact hc
 | cons p parts ih =>
  intro cells cs hf hc hp'
  obtain ⟨i,v⟩:=p
  simp only [Instr.fill] at hf
  cases hp:place i with
  | none=>simp [hp] at hf
  | some q =>
   obtain ⟨off,size⟩:=q
   simp only [hp] at hf
   split at hf
   ·cases hf
   ·refine ih _ _ hf (fun u hu=>?_) (fun q hq=>hp' q (by simp [hq]))
    rw [← Array.foldl_toList] at hu
    refine foldl_set_mem off (Q:=Q) _ cells hc (fun q hq=>?_) u hu
    have:=hp' (i,v) (by simp)
    refine this q.1 ?_
    rw [Array.toList_zipIdx] at hq
    exact (by simpa using (List.fst_mem_of_mem_zipIdx hq))
theorem built_ren (ρ:Env) {t:TypeId} {parts:List (Nat × Value)} {cs:Array Value} {ti:TypeInfo} {z:Value} (hi:P.info? t=some ti) (hz:ti.zero=some z) (hzf:bnd 0 z) (hb:P.built t parts=some cs) :
 P.built t (parts.map fun p=>(p.1,ren ρ p.2))=some (cs.map (ren ρ)):=by
 have hzr:z.cells.map (ren ρ)=z.cells:=by
  conv=>rhs;rw [← Array.map_id z.cells]
  exact Array.map_congr_left fun v hv=>ren_free ρ v (cells_bnd hzf v hv)
 unfold Program.built at hb ⊢
 simp only [hi] at hb ⊢
 cases hu:P.underlying t with
 | none=>simp [hu] at hb
 | some d =>
  simp only [hu] at hb ⊢
  cases d<;>try (simp at hb;done)
  case array n e =>
   simp only at hb ⊢
   cases hie:P.info? e with
   | none=>simp [hie] at hb
   | some ie =>
    simp only [hie,hz] at hb ⊢
    have:=fill_ren ρ _ _ _ _ hb
    rwa [hzr] at this
  case struct fields =>
   simp only at hb ⊢
   cases hp:fields.toList.mapM (fun f=>(P.info? f.type).map fun i=>(f.offset,i.size)) with
   | none=>simp [hp] at hb
   | some places =>
    simp only [hp,hz] at hb ⊢
    have:=fill_ren ρ _ _ _ _ hb
    rwa [hzr] at this
theorem built_mem {Q:Value→Prop} {t:TypeId} {parts:List (Nat × Value)} {cs:Array Value} {ti:TypeInfo} {z:Value} (hi:P.info? t=some ti) (hz:ti.zero=some z) (hzf:∀ v∈z.cells,Q v) (hb:P.built t parts=some cs)
 (hp':∀ p∈parts,∀ v∈p.2.cells,Q v):∀ v∈cs,Q v:=by
 unfold Program.built at hb
 simp only [hi] at hb
 cases hu:P.underlying t with
 | none=>simp [hu] at hb
 | some d =>
  simp only [hu] at hb
  cases d<;>try (simp at hb;done)
  case array n e =>
   simp only at hb
   cases hie:P.info? e with
   | none=>simp [hie] at hb
   | some ie =>
    simp only [hie,hz] at hb
    exact fill_mem _ _ _ _ hb hzf hp'
  case struct fields =>
   simp only at hb
   cases hp:fields.toList.mapM (fun f=>(P.info? f.type).map fun i=>(f.offset,i.size)) with
   | none=>simp [hp] at hb
   | some places =>
    simp only [hp,hz] at hb
    exact fill_mem _ _ _ _ hb hzf hp'
theorem TX.build {t:TypeId} {parts:Array (Nat × Operand)} {cs:Array Value} {ti:TypeInfo} {z:Value} (ho:o.op=.build t parts) (hi:P.info? t=some ti) (hz:ti.zero=some z) (hzf:bnd 0 z)
 (hb:P.built t (parts.toList.map fun p=>(p.1,ev p.2))=some cs):TX P o ev h (.agg cs) h :=
 .still (fun hbd=>by
  rw [bnd_agg]
  refine built_mem hi hz (fun v hv=>bnd_mono (Nat.zero_le _) v (cells_bnd hzf v hv)) hb (fun p hp v hv=>?_)
  simp only [List.mem_map] at hp
  obtain ⟨q,hq,rfl⟩:=hp
  exact cells_bnd (hbd q.2 (by simp [ho,Op.operands];exact ⟨q.1,by simpa using hq⟩)) v hv) fun ρ W ev' _ he=>by
  have h1:parts.map (fun (i,x)=>(i,ev' x))=(parts.toList.map fun p=>(p.1,ren ρ (ev p.2))).toArray:=by
   rw [← Array.toList_inj]
   simp only [Array.toList_map]
   refine List.map_congr_left fun p hp=>?_
   obtain ⟨i,x⟩:=p
   simp only
   rw [he x (by simp [ho,Op.operands];exact ⟨i,by simpa using hp⟩)]
  have h2:=built_ren ρ hi hz hzf hb
  rw [List.map_map] at h2
  have h3:=run_build (P:=P) W t (parts.map (fun (i,x)=>(i,ev' x))) (cs.map (ren ρ)) (by rw [h1];exact h2)
  simp only [execOp,ho,Sem.run_bind]
  rw [h3]
  simp
def zeros (z:Array Value) (n:Nat):Array Value:=(Array.range n).map (z[· % z.size]!)
theorem zeros_mem {Q:Value→Prop} {z:Array Value} (hz:∀ v∈z,Q v) (hd:Q default) (n:Nat):∀ v∈zeros z n,Q v:=by
 intro v hv
 unfold zeros at hv
 obtain ⟨i,_,rfl⟩:=Array.mem_map.1 hv
 by_cases hi:i % z.size < z.size
 ·rw [getElem!_pos z _ hi];exact hz _ (Array.getElem_mem hi)
 ·rw [getElem!_neg z _ hi];exact hd
theorem zeros_ren {z:Array Value} (hz:∀ v∈z,bnd 0 v) (n:Nat) (ρ:Env):(zeros z n).map (ren ρ)=zeros z n:=by
 conv=>rhs;rw [← Array.map_id (zeros z n)]
 refine Array.map_congr_left fun v hv=>?_
 refine ren_free ρ v (zeros_mem (Q:=bnd 0) hz ?_ n v hv)
 show bnd 0 (default:Value)
 simp [default,instInhabitedValue.default]
theorem HOK.newRow {G:Nat} {ρ:Env} {W:World} (hok:HOK G h ρ W) {cs:Array Value} {e:TypeId} (hem:e < mapM) (hc:∀ v∈cs,bnd h.n v) :
 ∃ ρ',ρ'.loc h.n=W.heap.size∧(ρ'.cap h.n=cs.size∧ρ'.sh h.n=0)∧Agree h.n ρ ρ'∧HOK G (h.push ⟨cs,e⟩) ρ' { W with heap:=W.heap.push (.cells (cs.map (ren ρ)) e) }∧Ext h (h.push ⟨cs,e⟩) ρ ρ' W { W with heap:=W.heap.push (.cells (cs.map (ren ρ)) e) }:=by
 obtain ⟨hok',hE⟩:=hok.new (b:=⟨cs,e⟩) hem (fun v hv=>bnd_mono (Nat.le_succ _) v (hc v hv)) #[] (by simp) (0,0) (by intro k _ hk;omega) { W with heap:=W.heap.push (.cells (cs.map (ren ρ)) e) }
  (by simp only [Array.append_empty];rw [Array.map_congr_left fun v hv=>(ren_agree (Env.add_agree ρ h.n _ _) v (hc v hv))]) rfl rfl rfl
 exact ⟨_,by simp [Env.add],by simp [Env.add],Env.add_agree _ _ _ _,hok',hE⟩
theorem TX.buildSlice {t e:TypeId} {len:Nat} {parts:Array (Nat × Operand)} {cs:Array Value} {ei:TypeInfo} {z:Value} (ho:o.op=.buildSlice t len parts) (ht:P.underlying t=some (.slice e)) (hi:P.info? e=some ei) (hz:ei.zero=some z) (hzf:bnd 0 z) (hem:e < mapM)
 (hbig:len * ei.size≤2 ^ 24) (hpos:len * ei.size≠0)
 (hb:Instr.fill (fun i=>some (i * ei.size,ei.size)) (zeros z.cells (len * ei.size)) (parts.toList.map fun p=>(p.1,ev p.2))=some cs) :
 TX P o ev h (.slice (some ⟨h.n,0,none⟩) len len) (h.push ⟨cs,e⟩) :=
 .value fun hbd ρ W ev' hok he=>by
  have hcs:∀ v∈cs,bnd h.n v:=by
   refine fill_mem _ _ _ _ hb (zeros_mem (fun v hv=>bnd_mono (Nat.zero_le _) v (cells_bnd hzf v hv)) (by simp [default,instInhabitedValue.default]) _) (fun p hp v hv=>?_)
   simp only [List.mem_map] at hp
   obtain ⟨q,hq,rfl⟩:=hp
   exact cells_bnd (hbd q.2 (by simp [ho,Op.operands];exact ⟨q.1,by simpa using hq⟩)) v hv
  have h1:(parts.map (fun (i,x)=>(i,ev' x))).toList=parts.toList.map fun p=>(p.1,ren ρ (ev p.2)):=by
   simp only [Array.toList_map]
   refine List.map_congr_left fun p hp=>?_
   obtain ⟨i,x⟩:=p
   simp only
   rw [he x (by simp [ho,Op.operands];exact ⟨i,by simpa using hp⟩)]
  have h2:=fill_ren ρ _ _ _ _ hb
  rw [zeros_ren (cells_bnd hzf),List.map_map] at h2
  obtain ⟨ρ',hl,⟨hc,hsh0⟩,hag,hok',hE⟩:=hok.newRow (e:=e) hem hcs
  refine ⟨ρ',_,?_,by simp [Hp.push],hok',hE⟩
  have h3:Instr.fill (fun i=>some (i * ei.size,ei.size)) ((Array.range (len * ei.size)).map (z.cells[· % z.cells.size]!)) (parts.map (fun (i,x)=>(i,ev' x))).toList=some (cs.map (ren ρ)):=by
   rw [h1];exact h2
  have hlen:renCap ρ' ⟨h.n,0,none⟩ len=len:=by
   unfold renCap capMark
   have:ei.size≠0:=fun e=>hpos (by rw [e,Nat.mul_zero])
   have:len≤len * ei.size:=Nat.le_mul_of_pos_right _ (by omega)
   rw [if_pos (by omega)]
  simp only [execOp,ho,Instr.buildSlice,Sem.run_bind,rU ht,Result.andThen_ok,rS hi]
  rw [if_neg (by omega)]
  simp only [Sem.run_pure,Result.andThen_ok,hpos,if_false,Sem.run_bind,rZ hi hz,h3,newRow,run_newObj]
  simp [renAddr,hl,hsh0,hlen]
end Go.AH
namespace Go.AH
variable {P:Program} {o:Oper} {ev:Operand→Value} {h:Hp}
theorem zeros_zero (z:Array Value):zeros z 0=#[]:=Array.eq_empty_of_size_eq_zero (by simp [zeros])
theorem TX.makeSlice {t e:TypeId} {x y:Operand} {l c:Nat} {k k':IntKind} {ei:TypeInfo} {z:Value} (ho:o.op=.makeSlice t x y) (ht:P.underlying t=some (.slice e)) (hi:P.info? e=some ei) (hz:ei.zero=some z) (hzf:bnd 0 z) (hem:e < mapM)
 (hx:ev x=.int k l) (hy:ev y=.int k' c) (hlc:l≤c) (hc:c≤9223372036854775807) (hby:ei.bytes * c≤2 ^ 48) :
 TX P o ev h (.slice (some ⟨h.n,0,none⟩) l c) (h.push ⟨zeros z.cells (c * ei.size),e⟩) :=
 .value fun hbd ρ W ev' hok he=>by
  have g1:=he x (by simp [ho,Op.operands])
  have g2:=he y (by simp [ho,Op.operands])
  rw [hx,ren_int] at g1
  rw [hy,ren_int] at g2
  have hcs:∀ v∈zeros z.cells (c * ei.size),bnd h.n v:=zeros_mem (fun v hv=>bnd_mono (Nat.zero_le _) v (cells_bnd hzf v hv)) (by simp [default,instInhabitedValue.default]) _
  obtain ⟨ρ',hl,⟨hcap,hsh0⟩,hag,hok',hE⟩:=hok.newRow (e:=e) hem hcs
  rw [zeros_ren (cells_bnd hzf)] at hok' hE
  refine ⟨ρ',_,?_,by simp [Hp.push],hok',hE⟩
  have hw:∀ n:Nat,n≤9223372036854775807→IntKind.i64.wrap (n:Int)=n:=by
   intro n hn
   simp [IntKind.wrap,IntKind.bits,IntKind.signed];omega
  have hcap':renCap ρ' ⟨h.n,0,none⟩ c=c:=by unfold renCap capMark;rw [if_pos (by omega)]
  have hbad:((decide ((c:Int) < 0) || decide ((ei.bytes:Int) * (c:Int) > 2 ^ 48)) || decide ((l:Int) < 0) || decide ((l:Int) > (c:Int)))=false:=by
   have h1:(ei.bytes:Int) * (c:Int)≤2 ^ 48:=by
    have:((ei.bytes * c:Nat):Int)≤((2 ^ 48:Nat):Int):=by exact_mod_cast hby
    simpa using this
   simp only [Bool.or_eq_false_iff,decide_eq_false_iff_not]
   omega
  simp only [execOp,ho,Instr.makeSlice,g1,g2,Sem.run_bind,rU ht,Result.andThen_ok,asInt,asIntOf,Sem.run_pure,rI hi,hw l (by omega),hw c hc]
  rw [if_neg (by rw [hbad];simp)]
  simp only [Result.andThen_ok,Sem.run_bind,rS hi,Int.toNat_natCast]
  by_cases hn:c * ei.size=0
  ·rw [hn,zeros_zero]
   simp only [if_true,Sem.run_pure,Result.andThen_ok,newRow,Sem.run_bind,run_newObj]
   rw [show (Array.range 0).map (fun x=>(#[]:Array Value)[x % (#[]:Array Value).size]!)=#[] from Array.eq_empty_of_size_eq_zero (by simp)]
   simp [renAddr,hl,hsh0,hcap']
  ·simp only [hn,if_false,Sem.run_bind,rZ hi hz,Result.andThen_ok,Sem.run_pure,newRow,run_newObj]
   simp [zeros,renAddr,hl,hsh0,hcap']
def srcCells (h:Hp) (size n:Nat):Value→Option (Array Value)
 | .slice (some a) _ _=>match h.m a.block with
  | some b=>if a.spot=none∧a.off+n * size≤b.cells.size then some (b.cells.extract a.off (a.off+n * size)) else none
  | none=>none
 | .slice none _ _=>some #[]
 | .string s=>some ((s.extract 0 n).data.map fun b=>.int .u8 b.toNat)
 | _=>none
def srcLen:Value→Option Nat
 | .slice _ n _=>some n
 | .string s=>some s.size
 | _=>none
theorem run_src {G:Nat} {ρ:Env} {W:World} (hok:HOK G h ρ W) {size n:Nat} {x:Value} {cs:Array Value} (hc:srcCells h size n x=some cs) :
 (Builtin.firstCells size n (ren ρ x)).run P W=.ok (cs.map (ren ρ)) W∧∀ v∈cs,bnd h.n v:=by
 cases x with
 | slice A l c =>
  cases A with
  | none=>simp [srcCells] at hc;subst hc;simp [Builtin.firstCells]
  | some a =>
   simp only [srcCells] at hc
   cases hb:h.m a.block with
   | none=>simp [hb] at hc
   | some b =>
    simp only [hb] at hc
    split at hc
    ·rename_i hh
     injection hc with hc
     subst hc
     refine ⟨?_,fun v hv=>hok.bd _ _ hb v (mem_ext hv)⟩
     simp only [ren_slice,Builtin.firstCells]
     exact run_loadN hok hb hh.1 hh.2
    ·cases hc
 | string s =>
  simp only [srcCells,Option.some.injEq] at hc
  subst hc
  refine ⟨by simp only [ren_string,Builtin.firstCells,Sem.run_pure,Array.map_map];congr 1;exact Array.map_congr_left fun b _=>by simp,fun v hv=>?_⟩
  obtain ⟨b,_,rfl⟩:=Array.mem_map.1 hv
  simp
 | _=>simp [srcCells] at hc
theorem run_srcLen {ρ:Env} {W:World} {x:Value} {n:Nat} (hn:srcLen x=some n):(Builtin.lenOf (ren ρ x)).run P W=.ok n W:=by
 cases x with
 | slice A l c=>cases A<;>simp [srcLen] at hn<;>simp [Builtin.lenOf,hn]
 | string s=>simp [srcLen] at hn;simp [Builtin.lenOf,hn]
 | _=>simp [srcLen] at hn
def srcType:TypeDesc→Bool
 | .slice _|.string=>true
 | _=>false
theorem run_append_in {t t2 ty e:TypeId} {d2:TypeDesc} {ei:TypeInfo} (ht:P.underlying t=some (.slice e)) (h2:P.underlying t2=some d2) (hd:srcType d2=true) (hi:P.info? e=some ei)
 {A:Addr} {len cap n:Nat} {x:Value} {new:Array Value} {W W':World} (hl:(Builtin.lenOf x).run P W=.ok n W) (hf:(Builtin.firstCells ei.size n x).run P W=.ok new W) (hroom:len+n≤cap)
 (hst:(storeCells (A.add (len * ei.size)) new.toList).run P W=.ok () W'):(Builtin.append_ #[t,t2] ty #[.slice (some A) len cap,x]).run P W=.ok (.slice (some A) (len+n) cap) W':=by
 cases d2<;>simp only [srcType,Bool.false_eq_true] at hd<;>simp [Builtin.append_,rU ht,rU h2,rS hi,hl,hf,hroom,hst]
theorem run_append_new {t t2 ty e:TypeId} {d2:TypeDesc} {ei:TypeInfo} {z:Value} (ht:P.underlying t=some (.slice e)) (h2:P.underlying t2=some d2) (hd:srcType d2=true) (hi:P.info? e=some ei) (hz:ei.zero=some z)
 {A:Option Addr} {len cap n:Nat} {x:Value} {new old:Array Value} {W:World} (hl:∀ W,(Builtin.lenOf x).run P W=.ok n W) (hf:∀ d,(Builtin.firstCells ei.size n x).run P { W with drawn:=d }=.ok new { W with drawn:=d })
 (hof:∀ d,(Builtin.firstCells ei.size len (.slice A len cap)).run P { W with drawn:=d }=.ok old { W with drawn:=d }) (hroom:cap < len+n) (h63:len+n≤9223372036854775807) (hfit:(len+n) * ei.bytes≤140737488355328) :
 ∃ k,len+n≤k∧(Builtin.append_ #[t,t2] ty #[.slice A len cap,x]).run P W=.ok (.slice (some ⟨W.heap.size,0,none⟩) (len+n) k)
  { W with drawn:=W.drawn+1,heap:=W.heap.push (.cells (old++new++Builtin.zeroCells z.cells (k - (len+n))) e) }:=by
 have hn:¬ (len+n≤cap):=by omega
 have h63':¬ (9223372036854775807 < ((len:Int)+(n:Int))):=by omega
 have h48':¬ (281474976710656 < Builtin.nextslicecap (len+n) cap * ei.bytes):=by
  have h1:=nextslicecap_le hroom
  have h2:Builtin.nextslicecap (len+n) cap * ei.bytes≤2 * (len+n) * ei.bytes:=Nat.mul_le_mul_right _ h1
  have h3:2 * (len+n) * ei.bytes=2 * ((len+n) * ei.bytes):=by rw [Nat.mul_assoc]
  omega
 have hof':(Builtin.firstCells ei.size len (.slice A len cap)).run P W.drew=.ok old W.drew:=hof (W.drawn+1)
 have hf':(Builtin.firstCells ei.size n x).run P W.drew=.ok new W.drew:=hf (W.drawn+1)
 refine ⟨(Question.appendCap (len+n) cap e).cut (W.tape W.drawn (Question.appendCap (len+n) cap e)),by simp [Question.cut],?_⟩
 cases d2<;>simp only [srcType,Bool.false_eq_true] at hd <;>
  simp [Builtin.append_,rU ht,rU h2,rS hi,rI hi,rZ hi hz,hl,hn,h63',h48',choose,Sem.run,Question.forced,hof',hf',newRow,run_newObj]<;>rfl
end Go.AH
namespace Go.AH
variable {P:Program} {o:Oper} {ev:Operand→Value} {h:Hp}
theorem HOK.heapEq {G:Nat} {ρ:Env} {W W':World} (ho:HOK G h ρ W) (he:W'.heap=W.heap):HOK G h ρ W' :=
 ⟨fun i b hb=>by rw [he];exact ho.fits i b hb,ho.lt,ho.inj,ho.bd,ho.glob,ho.gle,ho.gow⟩
def capOf (size:Nat):Nat:=capMark+size
theorem renCap_of {ρ:Env} {a:Addr} {size:Nat}:renCap ρ a (capOf size)=(ρ.cap a.block - a.off) / size:=by
 unfold renCap capOf
 rw [if_neg (by omega),Nat.add_sub_cancel_left]
theorem zeroCells_mem {z:Array Value} (hz:∀ v∈z,bnd 0 v) (n:Nat):∀ v∈Builtin.zeroCells z n,bnd 0 v:=zeros_mem (Q:=bnd 0) hz (by simp [default,instInhabitedValue.default]) _
theorem zeroCells_size (z:Array Value) (n:Nat):(Builtin.zeroCells z n).size=n * z.size:=by simp [Builtin.zeroCells]
theorem TX.appendNew {x y:Operand} {t t2 e:TypeId} {d2:TypeDesc} {ei:TypeInfo} {z:Value} {A:Option Addr} {len cap n:Nat} {old new:Array Value} (ho:o.op=.call { callee:=.builtin .append,args:=#[x,y],argTypes:=#[t,t2] })
 (ht:P.underlying t=some (.slice e)) (h2:P.underlying t2=some d2) (hd:srcType d2=true) (hi:P.info? e=some ei) (hz:ei.zero=some z) (hzf:bnd 0 z) (hem:e < mapM) (hzs:z.cells.size=ei.size) (hpos:0 < ei.size)
 (hx:ev x=.slice A len cap) (hcap:cap < capMark) (hold:srcCells h ei.size len (.slice A len cap)=some old) (hosz:old.size=len * ei.size) (hn:srcLen (ev y)=some n) (hnew:srcCells h ei.size n (ev y)=some new) (hnsz:new.size=n * ei.size)
 (hroom:cap < len+n) (h63:len+n≤9223372036854775807) (hfit:(len+n) * ei.bytes≤140737488355328) :
 TX P o ev h (.slice (some ⟨h.n,0,none⟩) (len+n) (capOf ei.size)) (h.push ⟨old++new,e⟩) :=
 .value fun hbd ρ W ev' hok he=>by
  have g1:=he x (by simp [ho,Op.operands,Call.operands])
  have g2:=he y (by simp [ho,Op.operands,Call.operands])
  have g1':ev' x=.slice (A.map (renAddr ρ)) len cap:=by
   rw [g1,hx]
   cases A with
   | none=>simp
   | some a=>simp [renCap,hcap]
  obtain ⟨hr1,hb1⟩:=run_src (P:=P) hok hnew
  obtain ⟨_,hb2⟩:=run_src (P:=P) hok hold
  obtain ⟨k,hk,hrun⟩:=run_append_new (P:=P) (W:=W) (ty:=o.type) (A:=A.map (renAddr ρ)) (len:=len) (cap:=cap) (x:=ren ρ (ev y)) (n:=n) (new:=new.map (ren ρ)) (old:=old.map (ren ρ)) ht h2 hd hi hz
   (fun W=>run_srcLen hn) (fun d=>(run_src (P:=P) (hok.heapEq (W':={ W with drawn:=d }) rfl) hnew).1)
   (fun d=>by
    have:=(run_src (P:=P) (hok.heapEq (W':={ W with drawn:=d }) rfl) hold).1
    cases A with
    | none=>simpa using this
    | some a=>simpa [renCap,hcap] using this) hroom h63 hfit
  have hcs:∀ v∈old++new,bnd h.n v:=by
   intro v hv
   rcases Array.mem_append.1 hv with h1|h1
   ·exact hb2 v h1
   ·exact hb1 v h1
  have hag:=Env.add_agree ρ h.n W.heap.size ((old++new).size+(Builtin.zeroCells z.cells (k - (len+n))).size)
  obtain ⟨hok',hE⟩:=hok.new (b:=⟨old++new,e⟩) hem (fun v hv=>bnd_mono (Nat.le_succ _) v (hcs v hv)) (Builtin.zeroCells z.cells (k - (len+n))) (zeroCells_mem (cells_bnd hzf) _) (0,0) (by intro k _ hk;omega)
   { W with drawn:=W.drawn+1,heap:=W.heap.push (.cells (old.map (ren ρ)++new.map (ren ρ)++Builtin.zeroCells z.cells (k - (len+n))) e) }
   (by simp only;rw [Array.map_congr_left fun v hv=>(ren_agree hag v (hcs v hv)),Array.map_append]) rfl rfl rfl
  refine ⟨_,_,?_,by simp [Hp.push],hok',hE⟩
  have hcapk:(ρ.add h.n W.heap.size ((old++new).size+(Builtin.zeroCells z.cells (k - (len+n))).size)).cap h.n=k * ei.size:=by
   simp only [Env.add,if_true,Array.size_append,hosz,hnsz,zeroCells_size,hzs]
   rw [← Nat.add_mul,← Nat.add_mul];congr 1;omega
  simp only [execOp,ho,resolve,invoke,builtin,Sem.run_bind,Sem.run_pure,Result.andThen_ok,List.map_toArray,List.map_cons,List.map_nil,g1',g2,hrun]
  simp only [ren_slice,renAddr,renCap_of,hcapk,Nat.sub_zero]
  rw [Nat.mul_div_cancel _ hpos]
  simp [Env.add]
theorem TX.appendIn {x y:Operand} {t t2 e:TypeId} {d2:TypeDesc} {ei:TypeInfo} {a:Addr} {len cap n:Nat} {b:Blk} {new:Array Value} (ho:o.op=.call { callee:=.builtin .append,args:=#[x,y],argTypes:=#[t,t2] })
 (ht:P.underlying t=some (.slice e)) (h2:P.underlying t2=some d2) (hd:srcType d2=true) (hi:P.info? e=some ei) (hpos:0 < ei.size)
 (hx:ev x=.slice (some a) len cap) (hs:a.spot=none) (hw:rwM≤a.block) (hcap:cap=capOf ei.size∨(cap < capMark∧len+n≤cap)) (hb:h.m a.block=some b) (hkn:a.off+(len+n) * ei.size≤b.cells.size)
 (hn:srcLen (ev y)=some n) (hnew:srcCells h ei.size n (ev y)=some new) (hnsz:new.size=n * ei.size) (hone:new.all (·.oneCell')=true) :
 TX P o ev h (.slice (some a) (len+n) cap) (h.set a.block { b with cells:=setFrom b.cells (a.off+len * ei.size) new.toList }) :=
 .value fun hbd ρ W ev' hok he=>by
  have g1:=he x (by simp [ho,Op.operands,Call.operands])
  have g2:=he y (by simp [ho,Op.operands,Call.operands])
  rw [hx,ren_slice] at g1
  obtain ⟨hr1,hb1⟩:=run_src (P:=P) hok hnew
  have hroom:len+n≤renCap ρ a cap:=by
   rcases hcap with rfl|⟨h1,h2⟩
   ·rw [renCap_of,Nat.le_div_iff_mul_le hpos]
    have hc:=(hok.fits _ _ hb).szle hw
    omega
   ·unfold renCap;rw [if_pos h1];exact h2
  have hmul:(len+n) * ei.size=len * ei.size+n * ei.size:=Nat.add_mul _ _ _
  have hoff:(a.add (len * ei.size)).off=a.off+len * ei.size:=by unfold Addr.add;split<;>simp_all
  have hspot:(a.add (len * ei.size)).spot=none:=by unfold Addr.add;split<;>simp_all
  obtain ⟨W',hr,hok',hE⟩:=run_storeN (P:=P) new.toList 0 (a:=a.add (len * ei.size)) hok (by rw [add_block];exact hw) (by rw [add_block];exact hb) hspot (by rw [hoff];simp [hnsz];omega) (fun v hv=>hb1 v (by simpa using hv)) (fun v hv=>Array.all_eq_true'.1 hone v (by simpa using hv))
  rw [add_block,hoff,Nat.add_zero] at hok' hE
  refine ⟨ρ,W',?_,?_,hok',hE⟩
  ·have hrun:=run_append_in (P:=P) (W:=W) (W':=W') (ty:=o.type) (A:=renAddr ρ a) (len:=len) (cap:=renCap ρ a cap) (x:=ren ρ (ev y)) (n:=n) (new:=new.map (ren ρ)) ht h2 hd hi (run_srcLen hn) hr1 hroom (by rw [addr_add,Array.toList_map];exact hr)
   simp only [execOp,ho,resolve,invoke,builtin,Sem.run_bind,Sem.run_pure,Result.andThen_ok,List.map_toArray,List.map_cons,List.map_nil,g1,g2,hrun,ren_slice]
  ·have:=hbd x (by simp [ho,Op.operands,Call.operands])
   rw [hx,bnd_slice] at this
   rw [bnd_slice];exact this
theorem TX.appendGrow {x y:Operand} {t t2 e:TypeId} {d2:TypeDesc} {ei:TypeInfo} {z:Value} {i len n:Nat} {b:Blk} {new:Array Value} (ho:o.op=.call { callee:=.builtin .append,args:=#[x,y],argTypes:=#[t,t2] })
 (ht:P.underlying t=some (.slice e)) (h2:P.underlying t2=some d2) (hd:srcType d2=true) (hi:P.info? e=some ei) (hz:ei.zero=some z) (hzf:bnd 0 z) (hem:e < mapM) (hzs:z.cells.size=ei.size) (hpos:0 < ei.size)
 (hx:ev x=.slice (some ⟨i,0,none⟩) len (capOf ei.size)) (hw:rwM≤i) (hb:h.m i=some b) (hbe:b.elem=e) (hkn:b.cells.size=len * ei.size)
 (hn:srcLen (ev y)=some n) (hnew:srcCells h ei.size n (ev y)=some new) (hnsz:new.size=n * ei.size) (hone:new.all (·.oneCell')=true) (h63:len+n≤9223372036854775807) (hfit:(len+n) * ei.bytes≤140737488355328) :
 TX P o ev h (.slice (some ⟨h.n,0,none⟩) (len+n) (capOf ei.size)) ((h.kill i).push ⟨b.cells++new,e⟩) :=
 .value fun hbd ρ W ev' hok he=>by
  have g1:=he x (by simp [ho,Op.operands,Call.operands])
  have g2:=he y (by simp [ho,Op.operands,Call.operands])
  rw [hx,ren_slice] at g1
  obtain ⟨hr1,hb1⟩:=run_src (P:=P) hok hnew
  have hin:i < h.n:=hok.lt _ _ hb
  have hsi:ρ.sh i=0:=(hok.fits _ _ hb).sh0 hw
  by_cases hroom:len+n≤renCap ρ ⟨i,0,none⟩ (capOf ei.size)
  ·have hroom':(len+n) * ei.size≤ρ.cap i:=by
    rw [renCap_of,Nat.le_div_iff_mul_le hpos] at hroom;simpa using hroom
   have hmul:(len+n) * ei.size=len * ei.size+n * ei.size:=Nat.add_mul _ _ _
   obtain ⟨more,hms,hmf,hok1,hE1⟩:=hok.more hw hb (by rw [hbe];exact hem) (k:=n * ei.size) (by omega)
   have hoff:((⟨i,0,none⟩:Addr).add (len * ei.size))=⟨i,len * ei.size,none⟩:=by
    unfold Addr.add;split<;>simp_all
   obtain ⟨W',hr,hok2,hE2⟩:=run_storeN (P:=P) new.toList 0 (a:=⟨i,len * ei.size,none⟩) (b:={ b with cells:=b.cells++more }) hok1 hw (by simp [Hp.set]) rfl (by simp [hnsz,hms,hkn]) (fun v hv=>hb1 v (by simpa using hv)) (fun v hv=>Array.all_eq_true'.1 hone v (by simpa using hv))
   simp only [Nat.add_zero,Hp.set_set] at hok2 hE2
   have hset:∀ (l:List Value) (p q:Array Value),l.length=q.size→setFrom (p++q) p.size l=p++l.toArray:=by
    intro l
    induction l with
    | nil=>intro p q hq;simp at hq;have:q=#[]:=Array.eq_empty_of_size_eq_zero hq.symm;subst this;simp [setFrom]
    | cons v l ih =>
     intro p q hq
     obtain ⟨q⟩:=q
     cases q with
     | nil=>simp at hq
     | cons u q =>
      rw [setFrom]
      have h3:(p++(u::q).toArray).setIfInBounds p.size v=(p.push v)++q.toArray:=by
       rw [Array.setIfInBounds_append_right (Nat.le_refl _)];simp
      rw [h3]
      have h4:=ih (p.push v) q.toArray (by simpa using hq)
      rw [Array.size_push] at h4
      rw [h4,← Array.toList_inj];simp
   rw [← hkn,hset new.toList b.cells more (by simp [hnsz,hms])] at hok2 hE2
   simp only [Array.toArray_toList] at hok2 hE2
   obtain ⟨hok3,hE3⟩:=hok2.rename (i:=i) (b:={ b with cells:=b.cells++new }) hw (by simp [Hp.set])
   have hkill:((h.set i { b with cells:=b.cells++new }).kill i).push { b with cells:=b.cells++new }=(h.kill i).push ⟨b.cells++new,e⟩:=by
    rw [← hbe]
    unfold Hp.push Hp.kill Hp.set
    congr 1
    funext j
    by_cases h1:j=h.n<;>by_cases h2:j=i<;>simp [h1,h2]
   rw [hkill] at hok3 hE3
   have hE4:=(hE1.trans (by simpa [Hp.set_set] using hE2:Ext (h.set i { b with cells:=b.cells++more }) (h.set i { b with cells:=b.cells++new }) ρ ρ W W')).trans hE3
   refine ⟨_,W',?_,by simp [Hp.push,Hp.kill],hok3,hE4⟩
   have hrun:=run_append_in (P:=P) (W:=W) (W':=W') (ty:=o.type) (A:=renAddr ρ ⟨i,0,none⟩) (len:=len) (cap:=renCap ρ ⟨i,0,none⟩ (capOf ei.size)) (x:=ren ρ (ev y)) (n:=n) (new:=new.map (ren ρ)) ht h2 hd hi (run_srcLen hn) hr1 hroom
    (by rw [addr_add,hoff,Array.toList_map];exact hr)
   simp only [execOp,ho,resolve,invoke,builtin,Sem.run_bind,Sem.run_pure,Result.andThen_ok,List.map_toArray,List.map_cons,List.map_nil,g1,g2,hrun]
   simp only [ren_slice,renCap_of]
   simp [renAddr,Env.add,Hp.set,hsi]
  ·have hold:srcCells h ei.size len (.slice (some ⟨i,0,none⟩) len (capOf ei.size))=some b.cells:=by
    simp only [srcCells,hb]
    rw [if_pos ⟨trivial,by omega⟩,← hkn];simp
   obtain ⟨_,hb2⟩:=run_src (P:=P) hok hold
   obtain ⟨k,hk,hrun⟩:=run_append_new (P:=P) (W:=W) (ty:=o.type) (A:=some (renAddr ρ ⟨i,0,none⟩)) (len:=len) (cap:=renCap ρ ⟨i,0,none⟩ (capOf ei.size)) (x:=ren ρ (ev y)) (n:=n) (new:=new.map (ren ρ)) (old:=b.cells.map (ren ρ)) ht h2 hd hi hz
    (fun W=>run_srcLen hn) (fun d=>(run_src (P:=P) (hok.heapEq (W':={ W with drawn:=d }) rfl) hnew).1)
    (fun d=>by
     have:=(run_src (P:=P) (hok.heapEq (W':={ W with drawn:=d }) rfl) hold).1
     simpa using this) (by omega) h63 hfit
   have hcs:∀ v∈b.cells++new,bnd h.n v:=by
    intro v hv
    rcases Array.mem_append.1 hv with h1|h1
    ·exact hb2 v h1
    ·exact hb1 v h1
   have hokK:HOK P.globals.size (h.kill i) ρ W:=by
    have key:∀ j c,(h.kill i).m j=some c→h.m j=some c:=by
     intro j c hj
     simp only [Hp.kill] at hj
     split at hj
     ·cases hj
     ·exact hj
    exact ⟨fun j c hj=>hok.fits _ _ (key j c hj),fun j c hj=>hok.lt _ _ (key j c hj),fun j l c d hj0 hj hl=>hok.inj _ _ _ _ hj0 (key j c hj) (key l d hl),fun j c hj=>hok.bd _ _ (key j c hj),hok.glob,hok.gle,hok.gow⟩
   have hEK:Ext h (h.kill i) ρ ρ W W:=⟨fun _ _=>⟨rfl,rfl,rfl⟩,Nat.le_refl _,fun _ _ _=>rfl,Nat.le_refl _,fun j c hj0 hj _=>by
    simp only [Hp.kill] at hj
    split at hj
    ·cases hj
    ·exact ⟨j,c,hj0,hj,rfl⟩,rfl,rfl,rfl,fun j c _ hj=>by
    simp only [Hp.kill] at hj
    split at hj
    ·cases hj
    ·exact ⟨c,hj,Nat.le_refl _,.refl _ _⟩⟩
   have hag:=Env.add_agree ρ h.n W.heap.size ((b.cells++new).size+(Builtin.zeroCells z.cells (k - (len+n))).size)
   obtain ⟨hok',hE⟩:=hokK.new (b:=⟨b.cells++new,e⟩) hem (fun v hv=>bnd_mono (Nat.le_succ _) v (hcs v hv)) (Builtin.zeroCells z.cells (k - (len+n))) (zeroCells_mem (cells_bnd hzf) _) (0,0) (by intro k _ hk;omega)
    { W with drawn:=W.drawn+1,heap:=W.heap.push (.cells (b.cells.map (ren ρ)++new.map (ren ρ)++Builtin.zeroCells z.cells (k - (len+n))) e) }
    (by simp only;rw [show (h.kill i).n=h.n from rfl,Array.map_congr_left fun v hv=>(ren_agree hag v (hcs v hv)),Array.map_append]) rfl rfl rfl
   refine ⟨_,_,?_,by simp [Hp.push,Hp.kill],hok',hEK.trans hE⟩
   have hcapk:(ρ.add h.n W.heap.size ((b.cells++new).size+(Builtin.zeroCells z.cells (k - (len+n))).size)).cap h.n=k * ei.size:=by
    simp only [Env.add,if_true,Array.size_append,hkn,hnsz,zeroCells_size,hzs]
    rw [← Nat.add_mul,← Nat.add_mul];congr 1;omega
   simp only [execOp,ho,resolve,invoke,builtin,Sem.run_bind,Sem.run_pure,Result.andThen_ok,List.map_toArray,List.map_cons,List.map_nil,g1,g2,hrun]
   simp only [ren_slice,renCap_of,show (h.kill i).n=h.n from rfl]
   simp only [renAddr,hcapk,Nat.sub_zero]
   rw [Nat.mul_div_cancel _ hpos]
   simp [Env.add]
end Go.AH
namespace Go.AH
variable {P:Program} {o:Oper} {ev:Operand→Value} {h:Hp}
def boundIs (ev:Operand→Value) (x:Option Operand) (d n:Nat):Prop:=match x with
 | none=>n=d
 | some y=>∃ k,ev y=.int k n
theorem bound_run {ev ev':Operand→Value} {ρ:Env} {x:Option Operand} {d n y:Nat} {code:BoundsCode} (hb:boundIs ev x d n) (he:∀ z∈x.toArray,ev' z=ren ρ (ev z)) (hn:n≤y) (W:World) :
 (match (x.map ev') with|some v=>Instr.sliceBound v y code|none=>Pure.pure d:Sem Nat).run P W=.ok n W:=by
 cases x with
 | none=>simp only [boundIs] at hb;subst hb;rfl
 | some z =>
  obtain ⟨k,hk⟩:=hb
  have:=he z (by simp)
  rw [hk,ren_int] at this
  simp only [Option.map_some,this,Instr.sliceBound,asIntOf,Sem.run_bind,Sem.run_pure,Result.andThen_ok]
  rw [if_pos (by omega)]
  simp
theorem run_bounds {ev ev':Operand→Value} {ρ:Env} {lo hi:Option Operand} {isS:Bool} {len cap l hh:Nat} (hlo:boundIs ev lo 0 l) (hhi:boundIs ev hi len hh) (he1:∀ z∈lo.toArray,ev' z=ren ρ (ev z)) (he2:∀ z∈hi.toArray,ev' z=ren ρ (ev z))
 (h1:l≤hh) (h2:hh≤cap) (W:World):(Instr.sliceBounds isS len cap (lo.map ev') (hi.map ev') none).run P W=.ok (l,hh,cap) W:=by
 have r1:=bound_run (P:=P) (code:=if isS then .sliceAcap else .sliceAlen) hhi he2 h2 W
 have r2:=bound_run (P:=P) (code:=.sliceB) hlo he1 h1 W
 cases lo<;>cases hi<;>simp only [Option.map_none,Option.map_some] at r1 r2<;>simp [Instr.sliceBounds,r1,r2]<;>simp_all
theorem TX.sliceM {x:Operand} {t e:TypeId} {ei:TypeInfo} {lo hi:Option Operand} {a:Addr} {b:Blk} {len l hh:Nat} (ho:o.op=.slice t x lo hi none) (ht:P.underlying t=some (.slice e)) (hi':P.info? e=some ei) (hpos:0 < ei.size)
 (hx:ev x=.slice (some a) len (capOf ei.size)) (hlo:boundIs ev lo 0 l) (hhi:boundIs ev hi len hh) (h1:l≤hh) (hw:rwM≤a.block) (hb:h.m a.block=some b) (h2:a.off+hh * ei.size≤b.cells.size) (h3:l=0∨a.off+(l+1) * ei.size≤b.cells.size) :
 TX P o ev h (.slice (some (a.add (l * ei.size))) (hh - l) (capOf ei.size)) h :=
 .still (fun hb=>by
  have h1:=hb x (by simp [ho,Op.operands])
  rw [hx,bnd_slice] at h1
  rw [bnd_slice,add_block];exact h1) fun ρ W ev' hok he=>by
  have g1:=he x (by simp [ho,Op.operands])
  rw [hx,ren_slice,renCap_of] at g1
  have hsz:=(hok.fits _ _ hb).szle hw
  have hle:∀ k,a.off+k * ei.size≤b.cells.size→k≤(ρ.cap a.block - a.off) / ei.size:=by
   intro k hk;rw [Nat.le_div_iff_mul_le hpos];omega
  have hb:=run_bounds (P:=P) (isS:=true) (cap:=(ρ.cap a.block - a.off) / ei.size) hlo hhi (fun z hz=>he z (by simp [ho,Op.operands];cases lo<;>simp_all)) (fun z hz=>he z (by simp [ho,Op.operands];cases hi<;>simp_all)) h1 (hle hh h2) W
  simp only [execOp,ho,Instr.sliceAt,Sem.run_bind,rU ht,Result.andThen_ok,Instr.slice,g1,Option.map_none,hb,rS hi',Sem.run_pure,ren_slice,renCap_of]
  have hoff:(a.add (l * ei.size)).off=a.off+l * ei.size:=by unfold Addr.add;split<;>simp_all
  rw [add_block,hoff]
  have hdiv:(ρ.cap a.block - (a.off+l * ei.size)) / ei.size=(ρ.cap a.block - a.off) / ei.size - l:=by
   rw [← Nat.sub_sub,Nat.mul_comm l,Nat.sub_mul_div]
  rw [hdiv]
  rcases h3 with rfl|h3
  ·simp [Addr.add]
  ·have:=hle (l+1) h3
   rw [if_neg (by omega)]
   simp [addr_add]
theorem TX.sliceNil {x:Operand} {t e:TypeId} {ei:TypeInfo} {lo hi:Option Operand} (ho:o.op=.slice t x lo hi none) (ht:P.underlying t=some (.slice e)) (hi':P.info? e=some ei)
 (hx:ev x=.slice none 0 0) (hlo:boundIs ev lo 0 0) (hhi:boundIs ev hi 0 0):TX P o ev h (.slice none 0 0) h :=
 .still (fun _=>by simp) fun ρ W ev' _ he=>by
  have g1:=he x (by simp [ho,Op.operands])
  rw [hx,ren_slice_none] at g1
  have hb:=run_bounds (P:=P) (isS:=true) (cap:=0) hlo hhi (fun z hz=>he z (by simp [ho,Op.operands];cases lo<;>simp_all)) (fun z hz=>he z (by simp [ho,Op.operands];cases hi<;>simp_all)) (Nat.le_refl _) (Nat.le_refl _) W
  simp [execOp,ho,Instr.sliceAt,rU ht,Instr.slice,g1,hb,rS hi']
theorem TX.call {fx:Operand} {xs:Array Operand} {ts:Array TypeId} {f:FuncId} {fn:Func} {first captured:Array Value} {v:Value} {h':Hp} (ho:o.op=.call { callee:=.value fx,args:=xs,argTypes:=ts }) (hfx:ev fx=.func (.func f) first captured)
 (hf : P.funcs[f]? = some fn) (hname : (fn.name == "runtime.NumGoroutine") = false) (hbody : fn.body.isNone = false) (ht : TF P f ((first ++ xs.map ev) ++ captured) h v h') : TX P o ev h v h' := by
 intro hbd ρ W hok A K Q hA hK
 have g1:=hA fx (by simp [ho,Op.operands,Call.operands])
 rw [hfx,ren_func] at g1
 have g2:xs.map A.eval=(xs.map ev).map (ren ρ):=by
  rw [Array.map_map]
  exact Array.map_congr_left fun x hx=>hA x (by simp [ho,Op.operands,Call.operands,hx])
 have hfb:=hbd fx (by simp [ho,Op.operands,Call.operands])
 rw [hfx,bnd_func] at hfb
 have hb:∀ x∈(first++xs.map ev)++captured,bnd h.n x:=by
  intro x hx
  rcases Array.mem_append.1 hx with h1|h1
  ·rcases Array.mem_append.1 h1 with h2|h2
   ·exact hfb.1 x h2
   ·obtain ⟨y,hy,rfl⟩:=Array.mem_map.1 h2
    exact hbd y (by simp [ho,Op.operands,Call.operands,hy])
  ·exact hfb.2 x h1
 have hc:=ht hb ρ W hok
 have hrun:(execOp A.eval o).run P W=.ok (.enter f (((first++xs.map ev)++captured).map (ren ρ))) W:=by
  simp only [execOp,ho,resolve,g1,Deferred.ofValue,invoke,callFunc,Sem.run_bind,Sem.run_pure,Result.andThen_ok,run_program,hf,hname,hbody,g2]
  simp
 unfold Oper.wp
 rw [hrun]
 refine Calls.mono hc ?_
 rintro e W' ⟨ρ',rfl,hv,hok',hE⟩
 exact hK ρ' W' hv hok' hE
def nilB:Value→Option Bool
 | .pointer a=>some a.isNone
 | .slice a _ _=>some a.isNone
 | .nilFunc=>some true
 | .func _ _ _=>some false
 | _=>none
end Go.AH
namespace Go.AH
variable {P:Program} {o:Oper} {ev:Operand→Value} {h:Hp}
def isEq:BinOp→Option Bool
 | .eql=>some true
 | .neq=>some false
 | _=>none
theorem eqGuard_run {op:BinOp} {t:TypeId} {x y:Operand} {a b:Value} (ha:(match a,b with|.nilIface,.nilIface=>false|.agg _,.agg _=>false|_,_=>true)=true) (W:World):(eqGuard op t x y a b).run P W=.ok () W:=by
 cases op<;>first|rfl|(cases a<;>cases b<;>first|rfl|cases ha)
theorem eq_ptr {t e:TypeId} (ht:P.underlying t=some (.pointer e)) (A:Option Addr) (W:World):(Op.equal t (.pointer A) (.pointer none)).run P W=.ok A.isNone W:=by
 show (Op.equalIn (9999+1) t (.pointer A) (.pointer none)).run P W=_
 rw [Op.equalIn,Sem.run_bind,rU ht];cases A<;>rfl
theorem TX.eqPtrNil {op:BinOp} {t e yt:TypeId} {x y:Operand} {q:Bool} {A:Option Addr} (ho:o.op=.binOp op t x y yt) (hop:isEq op=some q) (ht:P.underlying t=some (.pointer e)) (hx:ev x=.pointer A) (hy:ev y=.pointer none) :
 TX P o ev h (.bool (A.isNone == q)) h :=
 .still (fun _=>by simp) fun ρ W ev' _ he=>by
  have g1:=he x (by simp [ho,Op.operands])
  have g2:=he y (by simp [ho,Op.operands])
  have g1':ev' x=.pointer (A.map (renAddr ρ)):=by rw [g1,hx];cases A<;>simp
  rw [hy,ren_ptr_none] at g2
  have hr:=eq_ptr (P:=P) ht (A.map (renAddr ρ)) W
  cases op<;>simp only [isEq,Option.some.injEq,reduceCtorEq] at hop<;>subst hop <;>
   simp only [execOp,ho,g1',g2,Sem.run_bind,eqGuard_run,binOp,hr,Result.andThen_ok,Sem.run_pure,ren_bool,Option.isNone_map]<;>cases A<;>rfl
end Go.AH
namespace Go.AH
variable {P:Program}
theorem yielded_ren (ρ:Env) (ops:Array Oper) (a:Act) (j:Nat):yielded ops (renA ρ a).tmps j=yielded ops a.tmps j:=by
 unfold yielded renA
 cases h1:(ops[j]?).bind (·.dst) with
 | none=>simp
 | some t =>
  simp only [Option.bind_some,Array.getElem?_map]
  cases h2:a.tmps[t]? with
  | none=>simp
  | some v =>
   simp only [Option.map_some]
   cases v with
   | pointer a=>cases a<;>simp
   | slice a l c=>cases a<;>simp
   | map a=>cases a<;>simp
   | chan a=>cases a with
    | none=>rw [ren]<;>simp
    | some r=>rw [ren]
   | _=>simp
theorem wanted_ren (ρ:Env) (ops:Array Oper) (a:Act) (o:Oper):Region.wanted o (yielded ops (renA ρ a).tmps)=Region.wanted o (yielded ops a.tmps):=by
 unfold Region.wanted
 cases o.guard with
 | none=>rfl
 | some g=>simp only [yielded_ren]
inductive RunOps (P:Program) (ops:Array Oper):List Nat→Act→Hp→Act→Hp→Prop
 | nil (a:Act) (h:Hp):RunOps P ops [] a h a h
 | run {i:Nat} {l:List Nat} {o:Oper} {a a':Act} {h h1 h':Hp} {v:Value} (ho:ops[i]?=some o) (hw:Region.wanted o (yielded ops a.tmps)=true) (hk:∀ x∈o.op.operands,okOp P.globals.size x)
  (hx:TX P o a.eval h v h1) (hr:RunOps P ops l (a.put o.dst v) h1 a' h'):RunOps P ops (i::l) a h a' h'
 | skip {i:Nat} {l:List Nat} {o:Oper} {a a':Act} {h h':Hp} (ho:ops[i]?=some o) (hw:Region.wanted o (yielded ops a.tmps)=false) (hr:RunOps P ops l (a.put o.dst undef) h a' h'):RunOps P ops (i::l) a h a' h'
 | defer {i:Nat} {l:List Nat} {o:Oper} {a a':Act} {h h':Hp} {fx:Operand} {xs:Array Operand} {ts:Array TypeId} {f:FuncId} {first captured:Array Value} (ho:ops[i]?=some o) (hw:Region.wanted o (yielded ops a.tmps)=true) (hk:∀ x∈o.op.operands,okOp P.globals.size x)
  (hop:o.op=.defer { callee:=.value fx,args:=xs,argTypes:=ts }) (hfx:a.eval fx=.func (.func f) first captured)
  (hr:RunOps P ops l ({ a with defers:={ target:=.fn (.func f) captured,args:=first++xs.map a.eval }::a.defers }.put o.dst undef) h a' h'):RunOps P ops (i::l) a h a' h'
theorem RunOps.wp {ops:Array Oper} {l:List Nat} {a a':Act} {h h':Hp} (hr:RunOps P ops l a h a' h'):bndA h.n a→∀ (ρ:Env) (W:World),HOK P.globals.size h ρ W→∀ (Q:Exit→Act→World→Prop),
 (∀ ρ' W',bndA h'.n a'→HOK P.globals.size h' ρ' W'→Ext h h' ρ ρ' W W'→Q .normal (renA ρ' a') W')→wpOps P ops Q l (renA ρ a) W:=by
 induction hr with
 | nil a h=>intro hb ρ W hok Q hQ;exact hQ ρ W hb hok (Ext.refl _ _ _)
 | @run i l o a a' h h1 h' v ho hw hk hx hr ih =>
  intro hb ρ W hok Q hQ
  rw [wpOps,ho]
  simp only [wanted_ren,hw,if_true]
  left
  refine hx (fun x hx'=>eval_bnd hok.gn hb x (hk x hx')) ρ W hok (renA ρ a) _ Q (fun x hx'=>eval_ren hok.glob a x (hk x hx')) ?_
  intro ρ1 W1 hv hok1 hE
  have hb1:bndA h1.n (a.put o.dst v):=put_bnd (bndA_mono hE.mono hb) _ hv
  have he:(renA ρ a).put o.dst (ren ρ1 v)=renA ρ1 (a.put o.dst v):=by rw [put_ren,renA_agree hE.agree hb]
  rw [he]
  exact ih hb1 ρ1 W1 hok1 Q fun ρ' W' hb' hok' hE'=>hQ ρ' W' hb' hok' (hE.trans hE')
 | @skip i l o a a' h h' ho hw hr ih =>
  intro hb ρ W hok Q hQ
  rw [wpOps,ho]
  simp only [wanted_ren,hw]
  have he:(renA ρ a).put o.dst undef=renA ρ (a.put o.dst undef):=by rw [put_ren,ren_undef]
  rw [if_neg (by simp),he]
  exact ih (put_bnd hb _ (by simp)) ρ W hok Q hQ
 | @defer i l o a a' h h' fx xs ts f first captured ho hw hk hop hfx hr ih =>
  intro hb ρ W hok Q hQ
  rw [wpOps,ho]
  simp only [wanted_ren,hw,if_true]
  left
  have g1:(renA ρ a).eval fx=.func (.func f) (first.map (ren ρ)) (captured.map (ren ρ)):=by
   rw [eval_ren hok.glob a fx (hk fx (by simp [hop,Op.operands,Call.operands])),hfx,ren_func]
  have g2:xs.map (renA ρ a).eval=(xs.map a.eval).map (ren ρ):=by
   rw [Array.map_map]
   exact Array.map_congr_left fun x hx=>eval_ren hok.glob a x (hk x (by simp [hop,Op.operands,Call.operands,hx]))
  have hrun:(execOp (renA ρ a).eval o).run P W=.ok (.defer (renD ρ { target:=.fn (.func f) captured,args:=first++xs.map a.eval })) W:=by
   simp only [execOp,hop,resolve,g1,g2,Deferred.ofValue,Sem.run_bind,Sem.run_pure,Result.andThen_ok,renD,renT,Array.map_append]
  unfold Oper.wp
  rw [hrun]
  have hfb:=eval_bnd hok.gn hb fx (hk fx (by simp [hop,Op.operands,Call.operands]))
  rw [hfx,bnd_func] at hfb
  have hbd:bndD h.n { target:=.fn (.func f) captured,args:=first++xs.map a.eval }:=by
   refine ⟨hfb.2,fun v hv=>?_⟩
   rcases Array.mem_append.1 hv with h1|h1
   ·exact hfb.1 v h1
   ·obtain ⟨y,hy,rfl⟩:=Array.mem_map.1 h1
    exact eval_bnd hok.gn hb y (hk y (by simp [hop,Op.operands,Call.operands,hy]))
  have hb1:bndA h.n { a with defers:={ target:=.fn (.func f) captured,args:=first++xs.map a.eval }::a.defers }:=by
   refine ⟨hb.1,fun d hd=>?_⟩
   rcases List.mem_cons.1 hd with rfl|hd
   ·exact hbd
   ·exact hb.2 d hd
  have:=ih (put_bnd hb1 o.dst (by simp)) ρ W hok Q hQ
  rw [put_ren,ren_undef] at this
  exact this
theorem RunOps.region {id:Nat} {ops:Array Oper} {a a':Act} {h h':Hp} (hr:RunOps P ops (List.range ops.size) a h a' h'):TC P (.region id ops false) a h .normal a' h':=by
 intro hb ρ W hok
 refine wp_region (hr.wp hb ρ W hok _ ?_)
 intro ρ' W' hb' hok' hE
 exact ⟨rfl,ρ',rfl,hb',hok',hE⟩
def enterAct (fn:Func) (args:Array Value):Act:={ tmps:=args++Array.replicate (fn.ntmps - args.size) undef,defers:=[] }
theorem enterAct_ren (ρ:Env) (fn:Func) (args:Array Value):renA ρ (enterAct fn args)={ tmps:=(args.map (ren ρ))++Array.replicate (fn.ntmps - (args.map (ren ρ)).size) undef,defers:=[] }:=by
 simp [enterAct,renA]
theorem enterAct_bnd {n:Nat} {fn:Func} {args:Array Value} (ha:∀ x∈args,bnd n x):bndA n (enterAct fn args):=by
 refine ⟨fun v hv=>?_,by simp [enterAct]⟩
 rcases Array.mem_append.1 hv with h1|h1
 ·exact ha v h1
 ·rw [(Array.mem_replicate.1 h1).2];simp
def ResIs (P:Program) (fn:Func) (a:Act) (h:Hp) (v:Value):Prop :=
 ∀ ρ W,HOK P.globals.size h ρ W→(results fn (renA ρ a).tmps).run P W=.ok (ren ρ v) W
theorem TF.intro {f:FuncId} {fn:Func} {c:Code} {args:Array Value} {h h':Hp} {a':Act} {v:Value} {e:Exit} (hf:P.funcs[f]?=some fn) (hb:fn.body=some c) (he:e=.ret∨e=.normal)
 (hc:TC P c (enterAct fn args) h e a' h') (hd:a'.defers=[]) (hv:bndA h'.n a'→(∀ i b,h'.m i=some b→∀ v∈b.cells,bnd h'.n v)→bnd h'.n v) (hr:ResIs P fn a' h' v):TF P f args h v h':=by
 intro hargs ρ W hok
 refine calls_of_wp hf hb ?_
 rw [← enterAct_ren]
 refine wp_mono (hc (enterAct_bnd hargs) ρ W hok) ?_
 rintro e' A W' ⟨rfl,ρ',rfl,hb',hok',hE⟩
 have:(renA ρ' a').defers=[]:=by simp [renA,hd]
 rcases he with rfl|rfl
 ·exact ⟨this,_,hr ρ' W' hok',ρ',rfl,hv hb' hok'.bd,hok',hE⟩
 ·exact ⟨this,_,hr ρ' W' hok',ρ',rfl,hv hb' hok'.bd,hok',hE⟩
end Go.AH
namespace Go.AH
variable {P:Program}
def ment (D:Nat→Prop):Value→Prop
 | .pointer (some a)=>D a.block
 | .slice (some a) _ _=>D a.block
 | .map (some r)=>D r
 | .chan (some r)=>D r
 | .func _ f c=>(∀ v,(h:v∈f)→ment D v)∧(∀ v,(h:v∈c)→ment D v)
 | .iface _ v=>ment D v
 | .agg cs=>∀ v,(h:v∈cs)→ment D v
 | .tuple cs=>∀ v,(h:v∈cs)→ment D v
 | _=>True
theorem ren_ment {D:Nat→Prop} {ρ ρ':Env} (h:∀ i,D i→ρ'.loc i=ρ.loc i∧ρ'.cap i=ρ.cap i∧ρ'.sh i=ρ.sh i):∀ v,ment D v→ren ρ' v=ren ρ v:=by
 intro v
 induction v using ren.induct with
 | case1 a=>intro hb;rw [ment] at hb;simp [renAddr,(h _ hb).1,(h _ hb).2.2]
 | case2 a l c=>intro hb;rw [ment] at hb;simp [renAddr,renCap,(h _ hb).1,(h _ hb).2.1,(h _ hb).2.2]
 | case3 r=>intro hb;rw [ment] at hb;simp [(h _ hb).1]
 | case4 r=>intro hb;rw [ment] at hb;rw [ren,ren,(h _ hb).1]
 | case5 fn f c ih1 ih2 =>
  intro hb;rw [ment] at hb;simp only [ren_func]
  congr 1
  ·exact Array.map_congr_left fun v hv=>ih1 v hv (hb.1 v hv)
  ·exact Array.map_congr_left fun v hv=>ih2 v hv (hb.2 v hv)
 | case6 t v ih=>intro hb;rw [ment] at hb;simp [ih hb]
 | case7 cs ih=>intro hb;rw [ment] at hb;simp only [ren_agg];congr 1;exact Array.map_congr_left fun v hv=>ih v hv (hb v hv)
 | case8 cs ih=>intro hb;rw [ment] at hb;simp only [ren_tuple];congr 1;exact Array.map_congr_left fun v hv=>ih v hv (hb v hv)
 | case9 v=>intro _;rw [ren,ren]<;>simp_all
theorem ment_of_bnd {D:Nat→Prop} {n:Nat} (h:∀ i,i < n→D i):∀ v,bnd n v→ment D v:=by
 intro v
 induction v using bnd.induct with
 | case1 a=>simp only [bnd_ptr];intro hb;rw [ment];exact h _ hb
 | case2 a l c=>simp only [bnd_slice];intro hb;rw [ment];exact h _ hb
 | case3 r=>simp only [bnd_map];intro hb;rw [ment];exact h _ hb
 | case4 r=>intro hb;rw [bnd] at hb;rw [ment];exact h _ hb
 | case5 fn f c ih1 ih2=>simp only [bnd_func];intro hb;rw [ment];exact ⟨fun v hv=>ih1 v hv (hb.1 v hv),fun v hv=>ih2 v hv (hb.2 v hv)⟩
 | case6 t v ih=>simp only [bnd_iface];intro hb;rw [ment];exact ih hb
 | case7 cs ih=>simp only [bnd_agg];intro hb;rw [ment];exact fun v hv=>ih v hv (hb v hv)
 | case8 cs ih=>simp only [bnd_tuple];intro hb;rw [ment];exact fun v hv=>ih v hv (hb v hv)
 | case9 v=>intro _;rw [ment]<;>simp_all
def Hp.hide (h:Hp) (s:Nat→Bool):Hp:={ h with m:=fun i=>if s i then none else h.m i }
theorem hide_some {h:Hp} {s:Nat→Bool} {i:Nat} {b:Blk}:(h.hide s).m i=some b↔s i=false∧h.m i=some b:=by
 unfold Hp.hide
 cases hs:s i<;>simp [hs]
theorem HOK.hide {G:Nat} {h:Hp} {ρ:Env} {W:World} (ho:HOK G h ρ W) (s:Nat→Bool):HOK G (h.hide s) ρ W :=
 ⟨fun i b hb=>ho.fits i b (hide_some.1 hb).2,fun i b hb=>ho.lt i b (hide_some.1 hb).2,fun i j b c hi hb hc=>ho.inj i j b c hi (hide_some.1 hb).2 (hide_some.1 hc).2,fun i b hb=>ho.bd i b (hide_some.1 hb).2,ho.glob,ho.gle,ho.gow⟩
theorem HOK.unhide {G:Nat} {h h':Hp} {ρ ρ':Env} {W W':World} {s:Nat→Bool} (ho:HOK G h ρ W) (ho':HOK G (h'.hide s) ρ' W') (hE:Ext (h.hide s) (h'.hide s) ρ ρ' W W') (hs:∀ i,s i=true→h'.m i=h.m i) :
 HOK G h' ρ' W'∧Ext h h' ρ ρ' W W':=by
 have hag:Agree h.n ρ ρ':=hE.agree
 have hmono:h.n≤h'.n:=hE.mono
 have hkept:∀ i b,s i=true→h.m i=some b→W'.heap[ρ.loc i]?=W.heap[ρ.loc i]?:=by
  intro i b hsi hb
  refine hE.kept _ (ho.fits i b hb).lt fun k c hk0 hk he=>?_
  obtain ⟨hk1,hk2⟩:=hide_some.1 hk
  have:=ho.inj _ _ _ _ hk0 hk2 hb he
  subst this
  rw [hsi] at hk1;cases hk1
 refine ⟨⟨fun i b hb=>?_,fun i b hb=>?_,fun i j b c hi0 hb hc hl=>?_,fun i b hb v hv=>?_,ho'.glob,ho'.gle,ho'.gow⟩,⟨hag,hmono,fun c hc hn=>hE.kept c hc fun i b hi0 hb=>hn i b hi0 (hide_some.1 hb).2,hE.size,fun i b hi0 hb hl=>?_,hE.tape,hE.os,hE.output,fun i b hin hb=>?_⟩⟩
 ·cases hsi:s i with
  | false=>exact ho'.fits i b (hide_some.2 ⟨hsi,hb⟩)
  | true =>
   have hb0:h.m i=some b:=by rw [← hs i hsi];exact hb
   have hin:=ho.lt _ _ hb0
   rw [(hag i hin).1,hkept i b hsi hb0]
   exact (ho.fits i b hb0).agree hag hin (ho.bd _ _ hb0)
 ·cases hsi:s i with
  | false=>exact ho'.lt i b (hide_some.2 ⟨hsi,hb⟩)
  | true =>
   have hb0:h.m i=some b:=by rw [← hs i hsi];exact hb
   have:=ho.lt _ _ hb0;omega
 ·have key:∀ i j b c,rwM≤j∨rwM≤i→s i=true→s j=false→h'.m i=some b→h'.m j=some c→ρ'.loc i=ρ'.loc j→False:=by
   intro i j b c hor hsi hsj hb hc hl
   have hb0:h.m i=some b:=by rw [← hs i hsi];exact hb
   have hin:=ho.lt _ _ hb0
   have hloc:=(hag i hin).1
   have hlt:=(ho.fits i b hb0).lt
   by_cases hj0:rwM≤j
   ·obtain ⟨k,d,hk0,hk,hkl⟩:=hE.own j c hj0 (hide_some.2 ⟨hsj,hc⟩) (by rw [← hl,hloc];exact hlt)
    obtain ⟨hk1,hk2⟩:=hide_some.1 hk
    have:=ho.inj _ _ _ _ hk0 hk2 hb0 (by rw [hkl,← hl,hloc])
    subst this
    rw [hsi] at hk1;cases hk1
   ·have hjn:j < h.n:=by have:=ho.gle;omega
    obtain ⟨d,hd,_⟩:=hE.surv j c hjn (hide_some.2 ⟨hsj,hc⟩)
    have:=ho.inj _ _ _ _ (hor.resolve_left hj0) hb0 (hide_some.1 hd).2 (by rw [← hloc,hl,(hag j hjn).1])
    subst this
    rw [hsi] at hsj;cases hsj
  cases hsi:s i<;>cases hsj:s j
  ·exact ho'.inj _ _ _ _ hi0 (hide_some.2 ⟨hsi,hb⟩) (hide_some.2 ⟨hsj,hc⟩) hl
  ·exact (key j i c b (.inl hi0) hsj hsi hc hb hl.symm).elim
  ·exact (key i j b c (.inr hi0) hsi hsj hb hc hl).elim
  ·have hb0:h.m i=some b:=by rw [← hs i hsi];exact hb
   have hc0:h.m j=some c:=by rw [← hs j hsj];exact hc
   rw [(hag i (ho.lt _ _ hb0)).1,(hag j (ho.lt _ _ hc0)).1] at hl
   exact ho.inj _ _ _ _ hi0 hb0 hc0 hl
 ·cases hsi:s i with
  | false=>exact ho'.bd i b (hide_some.2 ⟨hsi,hb⟩) v hv
  | true =>
   have hb0:h.m i=some b:=by rw [← hs i hsi];exact hb
   exact bnd_mono hmono v (ho.bd _ _ hb0 v hv)
 ·cases hsi:s i with
  | false =>
   obtain ⟨k,c,hk0,hk,hkl⟩:=hE.own i b hi0 (hide_some.2 ⟨hsi,hb⟩) hl
   exact ⟨k,c,hk0,(hide_some.1 hk).2,hkl⟩
  | true =>
   have hb0:h.m i=some b:=by rw [← hs i hsi];exact hb
   exact ⟨i,b,hi0,hb0,((hag i (ho.lt _ _ hb0)).1).symm⟩
 ·cases hsi:s i with
  | false =>
   obtain ⟨c,hc,h1,h2⟩:=hE.surv i b hin (hide_some.2 ⟨hsi,hb⟩)
   exact ⟨c,(hide_some.1 hc).2,h1,h2⟩
  | true =>
   have hb0:h.m i=some b:=by rw [← hs i hsi];exact hb
   rw [hkept i b hsi hb0]
   exact ⟨b,hb0,Nat.le_refl _,.refl _ _⟩
theorem TX.frame {o:Oper} {ev:Operand→Value} {h h':Hp} {v:Value} (s:Nat→Bool) (ht:TX P o ev (h.hide s) v (h'.hide s)) (hs:∀ i,s i=true→h'.m i=h.m i):TX P o ev h v h':=by
 intro hb ρ W hok A K Q hA hK
 refine ht hb ρ W (hok.hide s) A K Q hA fun ρ' W' hv hok' hE=>?_
 obtain ⟨h1,h2⟩:=hok.unhide hok' hE hs
 exact hK ρ' W' hv h1 h2
theorem wp_outcome {o:Oper} {A:Act} {W:World} {K:Act→World→Prop} (h:o.wp P A W K (fun _ _ _=>False)):∃ A' W',K A' W':=by
 unfold Oper.wp at h
 generalize (execOp A.eval o).run P W=r at h
 cases r with
 | ok n w' =>
  cases n<;>simp only [Oper.upon] at h
  case enter f args =>
   obtain ⟨e,w'',fr,hR,_⟩:=h []
   cases e with
   | returned v=>exact ⟨_,_,hR⟩
   | panicked c=>exact hR.elim
   | outgrown=>obtain ⟨_,_,hf⟩:=hR;exact hf.elim
  case row r args =>
   obtain ⟨v,w'',hR,_⟩:=h default []
   exact ⟨_,_,hR⟩
  all_goals first|exact ⟨_,_,h⟩|exact h.elim
 | halt x w'=>cases x<;>simp only [Oper.upon] at h
end Go.AH
namespace Go.AH
variable {P:Program}
def lastB (p:Nat→Bool):Nat→Option Nat
 | 0=>none
 | k+1=>if p k then some k else lastB p k
theorem lastB_congr {p q:Nat→Bool}:∀ n,(∀ i,i < n→p i=q i)→lastB p n=lastB q n:=by
 intro n
 induction n with
 | zero=>intro _;rfl
 | succ n ih=>intro h;rw [lastB,lastB,h n (by omega),ih fun i hi=>h i (by omega)]
theorem lastB_cut {p:Nat→Bool} {j:Nat}:∀ n,j≤n→lastB (fun i=>decide (i < j) && p i) n=lastB p j:=by
 intro n
 induction n with
 | zero => intro h; have : j = 0 := by omega
           subst this;rfl
 | succ n ih =>
  intro h
  by_cases hj:j=n+1
  ·subst hj;exact lastB_congr _ fun i hi=>by simp [hi]
  ·rw [lastB,if_neg (by simp;omega),ih (by omega)]
theorem lastB_at {p:Nat→Bool} {j:Nat}:∀ n,j < n→p j=true→(∀ k,j < k→k < n→p k=false)→lastB p n=some j:=by
 intro n
 induction n with
 | zero=>intro h;omega
 | succ n ih =>
  intro h hp hk
  by_cases hj:j=n
  ·subst hj;rw [lastB,if_pos hp]
  ·rw [lastB,if_neg (by rw [hk n (by omega) (by omega)];simp),ih (by omega) hp fun k h1 h2=>hk k h1 (by omega)]
theorem lastB_lt {p:Nat→Bool} {j:Nat}:∀ n,lastB p n=some j→j < n∧p j=true:=by
 intro n
 induction n with
 | zero=>intro h;cases h
 | succ n ih =>
  intro h
  rw [lastB] at h
  split at h
  ·injection h with h;subst h;rename_i hp;exact ⟨by omega,hp⟩
  ·have:=ih h;exact ⟨by omega,this.2⟩
def Dep (ops:Array Oper) (j i:Nat):Prop:=∃ o,ops[j]?=some o∧∃ e∈o.after,Region.binds .any e=true∧e.on=i
inductive Anc (ops:Array Oper):Nat→Nat→Prop
 | one {j i:Nat} (h:Dep ops j i):Anc ops j i
 | more {j k i:Nat} (h:Dep ops j k) (h':Anc ops k i):Anc ops j i
def Free (ops:Array Oper) (i j:Nat):Prop:=i≠j∧¬ Anc ops j i∧¬ Anc ops i j
theorem Free.symm {ops:Array Oper} {i j:Nat} (h:Free ops i j):Free ops j i:=⟨h.1.symm,h.2.2,h.2.1⟩
def dstOf (ops:Array Oper) (i:Nat):Option Tmp:=(ops[i]?).bind (·.dst)
structure Plan where
 a:Nat→Act
 h:Nat→Hp
 v:Nat→Value
 hid:Nat→Nat→Bool
 eff:Nat→Nat→Bool
def StC (h:Hp) (b c:Nat) (v:Value):Prop:=b < h.n∧∃ B,h.m b=some B∧B.cells[c]?=some v
structure Plan.OK (P:Program) (ops:Array Oper) (p:Plan):Prop where
 back:∀ j i,Dep ops j i→i < j
 step:∀ j o,ops[j]?=some o →
  (Region.wanted o (yielded ops (p.a j).tmps)=false∧p.v j=undef∧p.h (j+1)=p.h j) ∨
  (Region.wanted o (yielded ops (p.a j).tmps)=true∧(∀ x∈o.op.operands,okOp P.globals.size x)∧TX P o (p.a j).eval ((p.h j).hide (p.hid j)) (p.v j) ((p.h (j+1)).hide (p.hid j))) ∨
  (Region.wanted o (yielded ops (p.a j).tmps)=true∧(∀ x∈o.op.operands,okOp P.globals.size x)∧p.h (j+1)=p.h j∧(∀ id,p.eff j id=false)∧∃ b c,(∀ i,i < j→Free ops i j→p.eff i b=false) ∧
   (∀ i,i < ops.size→j < i→Free ops i j→p.eff i b=true→StC (p.h (i+1)) b c (p.v j))∧StC (p.h j) b c (p.v j)∧∀ H,StC H b c (p.v j)→TX P o (p.a j).eval H (p.v j) H)
 put:∀ j o,ops[j]?=some o→p.a (j+1)=(p.a j).put o.dst (p.v j)
 mono:∀ j,j < ops.size→(p.h j).n≤(p.h (j+1)).n
 fresh:∀ j,j < ops.size→∀ id,id < (p.h j).n→(p.h j).m id=none→(p.h (j+1)).m id=none
 effs:∀ j,j < ops.size→∀ id,p.eff j id=false→(p.h (j+1)).m id=(p.h j).m id
 ehid:∀ j,j < ops.size→∀ id,p.eff j id=true→p.hid j id=false
 cross:∀ i j,i < ops.size→j < ops.size→Free ops i j→∀ id,p.eff i id=true→p.hid j id=true
 slots:∀ i j oj t,ops[j]?=some oj→i < ops.size→Free ops i j→dstOf ops i=some t→(∀ x∈oj.op.operands,x≠.tmp t)∧oj.dst≠some t∧∀ g w,oj.guard=some (g,w)→dstOf ops g≠some t
 apart:∀ j k,j < ops.size→k < ops.size→Free ops j k→ment (fun id=>¬ ((p.h j).n≤id∧id < (p.h (j+1)).n)) (p.v k) ∧
  ∀ id b,p.eff k id=true→(p.h (k+1)).m id=some b→∀ v∈b.cells,ment (fun id=>¬ ((p.h j).n≤id∧id < (p.h (j+1)).n)) v
section
variable {ops:Array Oper} {p:Plan}
theorem Anc.lt (hb:∀ j i,Dep ops j i→i < j) {j i:Nat} (h:Anc ops j i):i < j:=by
 induction h with
 | one h=>exact hb _ _ h
 | more h _ ih=>have:=hb _ _ h;omega
theorem Plan.OK.monoLe (ok:p.OK P ops):∀ k j,j≤k→k≤ops.size→(p.h j).n≤(p.h k).n:=by
 intro k
 induction k with
 | zero => intro j hj _; have : j = 0 := by omega
           subst this;exact Nat.le_refl _
 | succ k ih =>
  intro j hj hk
  by_cases h:j=k+1
  ·subst h;exact Nat.le_refl _
  ·exact Nat.le_trans (ih j (by omega) (by omega)) (ok.mono k (by omega))
theorem Plan.OK.text (ok:p.OK P ops) {ρ:Env} {W:World} (hb:bndA (p.h 0).n (p.a 0)) (ho:HOK P.globals.size (p.h 0) ρ W) :
 ∀ j,j≤ops.size→(∃ ρ W,HOK P.globals.size (p.h j) ρ W)∧bndA (p.h j).n (p.a j)∧∀ i,i < j→bnd (p.h (i+1)).n (p.v i):=by
 intro j
 induction j with
 | zero=>intro _;exact ⟨⟨ρ,W,ho⟩,hb,fun i hi=>by omega⟩
 | succ j ih =>
  intro hj
  obtain ⟨⟨ρ1,W1,ho1⟩,hb1,hv1⟩:=ih (by omega)
  have hoj:ops[j]?=some ops[j]:=Array.getElem?_eq_getElem (by omega)
  rcases ok.step j _ hoj with ⟨_,hv,hh⟩|⟨hw,hk,ht⟩|⟨hw,hk,hh,_,b,c,_,_,hst,ht⟩
  ·rw [ok.put j _ hoj,hv,hh]
   refine ⟨⟨ρ1,W1,ho1⟩,put_bnd hb1 _ (by simp),fun i hi=>?_⟩
   by_cases hij:i=j
   ·subst hij;rw [hv];simp
   ·exact hv1 i (by omega)
  ·have htf:=ht.frame (p.hid j) (fun id hid=>by
    cases he:p.eff j id with
    | false=>exact ok.effs j (by omega) id he
    | true=>rw [ok.ehid j (by omega) id he] at hid;cases hid)
   have:=wp_outcome (htf (fun x hx=>eval_bnd ho1.gn hb1 x (hk x hx)) ρ1 W1 ho1 (renA ρ1 (p.a j)) (fun _ W'=>∃ ρ',bnd (p.h (j+1)).n (p.v j)∧HOK P.globals.size (p.h (j+1)) ρ' W') (fun _ _ _=>False)
    (fun x hx=>eval_ren ho1.glob _ x (hk x hx)) fun ρ' W' hv ho' _=>⟨ρ',hv,ho'⟩)
   obtain ⟨_,W',ρ',hv,ho'⟩:=this
   rw [ok.put j _ hoj]
   refine ⟨⟨ρ',W',ho'⟩,put_bnd (bndA_mono (ok.mono j (by omega)) hb1) _ hv,fun i hi=>?_⟩
   by_cases hij:i=j
   ·subst hij;exact hv
   ·exact hv1 i (by omega)
  ·have:=wp_outcome (ht _ hst (fun x hx=>eval_bnd ho1.gn hb1 x (hk x hx)) ρ1 W1 ho1 (renA ρ1 (p.a j)) (fun _ W'=>∃ ρ',bnd (p.h j).n (p.v j)∧HOK P.globals.size (p.h j) ρ' W') (fun _ _ _=>False)
    (fun x hx=>eval_ren ho1.glob _ x (hk x hx)) fun ρ' W' hv ho' _=>⟨ρ',hv,ho'⟩)
   obtain ⟨_,W',ρ',hv,ho'⟩:=this
   rw [ok.put j _ hoj,hh]
   refine ⟨⟨ρ',W',ho'⟩,put_bnd hb1 _ hv,fun i hi=>?_⟩
   by_cases hij:i=j
   ·subst hij;rw [hh];exact hv
   ·exact hv1 i (by omega)
def heapAt (ops:Array Oper) (p:Plan) (S:Nat→Bool):Hp :=
 { m:=fun id=>match lastB (fun i=>S i && p.eff i id) ops.size with|some i=>(p.h (i+1)).m id|none=>(p.h 0).m id,n:=(p.h ops.size).n }
def slotAt (ops:Array Oper) (p:Plan) (S:Nat→Bool) (t:Nat):Value :=
 match lastB (fun i=>S i && dstOf ops i == some t) ops.size with|some i=>p.v i|none=>(p.a 0).tmps.getD t undef
def actAt (ops:Array Oper) (p:Plan) (S:Nat→Bool):Act:={ tmps:=(Array.range (p.a 0).tmps.size).map (slotAt ops p S),defers:=(p.a 0).defers }
theorem Plan.OK.heapText (ok:p.OK P ops) (id:Nat):∀ j,j≤ops.size→(p.h j).m id=match lastB (fun i=>p.eff i id) j with|some i=>(p.h (i+1)).m id|none=>(p.h 0).m id:=by
 intro j
 induction j with
 | zero=>intro _;rfl
 | succ j ih =>
  intro hj
  rw [lastB]
  cases he:p.eff j id with
  | true=>simp
  | false=>simp only [Bool.false_eq_true,if_false];rw [ok.effs j (by omega) id he];exact ih (by omega)
theorem put_size (a:Act) (d:Option Tmp) (v:Value):(a.put d v).tmps.size=a.tmps.size:=by cases d<;>simp [Act.put]
theorem put_get (a:Act) (d:Option Tmp) (v:Value) (t:Nat):(a.put d v).tmps[t]?=if d=some t∧t < a.tmps.size then some v else a.tmps[t]?:=by
 cases d with
 | none=>simp [Act.put]
 | some d =>
  simp only [Act.put,Array.getElem?_setIfInBounds,Option.some.injEq]
  by_cases hd:d=t
  ·subst hd
   by_cases hl:d < a.tmps.size
   ·simp [hl]
   ·simp [hl]
  ·simp [hd]
theorem Plan.OK.sizeText (ok:p.OK P ops):∀ j,j≤ops.size→(p.a j).tmps.size=(p.a 0).tmps.size∧(p.a j).defers=(p.a 0).defers:=by
 intro j
 induction j with
 | zero=>intro _;exact ⟨rfl,rfl⟩
 | succ j ih =>
  intro hj
  have hoj:ops[j]?=some ops[j]:=Array.getElem?_eq_getElem (by omega)
  have:=ih (by omega)
  rw [ok.put j _ hoj,put_size]
  refine ⟨this.1,?_⟩
  rw [← this.2]
  cases ops[j].dst<;>rfl
theorem Plan.OK.slotText (ok:p.OK P ops) (t:Nat) (ht:t < (p.a 0).tmps.size):∀ j,j≤ops.size→(p.a j).tmps[t]?=some (match lastB (fun i=>dstOf ops i == some t) j with|some i=>p.v i|none=>(p.a 0).tmps.getD t undef):=by
 intro j
 induction j with
 | zero=>intro _;simp [lastB,Array.getD_eq_getD_getElem?,Array.getElem?_eq_getElem ht]
 | succ j ih =>
  intro hj
  have hoj:ops[j]?=some ops[j]:=Array.getElem?_eq_getElem (by omega)
  rw [ok.put j _ hoj,put_get,lastB]
  have hd:dstOf ops j=ops[j].dst:=by simp [dstOf,hoj]
  rw [hd]
  by_cases h:ops[j].dst=some t
  ·rw [if_pos ⟨h,by rw [(ok.sizeText j (by omega)).1];exact ht⟩,if_pos (by simp [h])]
  ·rw [if_neg (fun hh=>h hh.1),if_neg (by simp [h])]
   exact ih (by omega)
theorem Plan.OK.freshLe (ok:p.OK P ops) (id:Nat):∀ k j,j≤k→k≤ops.size→id < (p.h j).n→(p.h j).m id=none→(p.h k).m id=none:=by
 intro k
 induction k with
 | zero => intro j hj _ _ h; have : j = 0 := by omega
           subst this;exact h
 | succ k ih =>
  intro j hj hk hn h
  by_cases hjk:j=k+1
  ·subst hjk;exact h
  ·have h1:=ih j (by omega) (by omega) hn h
   exact ok.fresh k (by omega) id (Nat.lt_of_lt_of_le hn (ok.monoLe k j (by omega) (by omega))) h1
structure Ready (ops:Array Oper) (S:Nat→Bool) (j:Nat):Prop where
 lt:j < ops.size
 nj:S j=false
 closed:∀ k i,S k=true→Dep ops k i→S i=true
 deps:∀ i,Dep ops j i→S i=true
theorem Ready.anc {S:Nat→Bool} {j:Nat} (r:Ready ops S j):∀ {k i:Nat},Anc ops k i→(S k=true∨k=j)→S i=true:=by
 intro k i h
 induction h with
 | one h=>rintro (hk|rfl);exact r.closed _ _ hk h;exact r.deps _ h
 | more h _ ih=>rintro (hk|rfl);exact ih (.inl (r.closed _ _ hk h));exact ih (.inl (r.deps _ h))
theorem Ready.free {S:Nat→Bool} {j:Nat} (hb:∀ j i,Dep ops j i→i < j) (r:Ready ops S j) {i:Nat} (hi:S i=true) (hij:j < i):Free ops i j:=by
 refine ⟨by omega,fun h=>?_,fun h=>?_⟩
 ·have:=h.lt hb;omega
 ·have:=r.anc h (.inl hi);rw [r.nj] at this;cases this
theorem Ready.last {S w:Nat→Bool} {j:Nat} (hb:∀ j i,Dep ops j i→i < j) (r:Ready ops S j) (hw:∀ i,i < ops.size→w i=true→¬ Free ops i j):lastB (fun i=>S i && w i) ops.size=lastB w j:=by
 rw [← lastB_cut (p:=w) ops.size (Nat.le_of_lt r.lt)]
 refine lastB_congr _ fun i hi=>?_
 cases hwi:w i with
 | false=>simp
 | true =>
  simp only [Bool.and_true]
  by_cases hij:i < j
  ·simp only [hij,decide_true]
   have hf:=hw i hi hwi
   unfold Free at hf
   have h1:Anc ops j i:=by
    by_cases h1:Anc ops j i
    ·exact h1
    ·by_cases h2:Anc ops i j
     ·have:=h2.lt hb;omega
     ·exact absurd ⟨by omega,h1,h2⟩ hf
   exact r.anc h1 (.inr rfl)
  ·simp only [hij,decide_false]
   cases hS:S i with
   | false=>rfl
   | true =>
    by_cases he:i=j
    ·subst he;rw [r.nj] at hS;cases hS
    ·exact absurd (r.free hb hS (by omega)) (hw i hi hwi)
theorem Ready.lastJ {S w:Nat→Bool} {j:Nat} (hb:∀ j i,Dep ops j i→i < j) (r:Ready ops S j) (hj:w j=true) (hw:∀ i,i < ops.size→w i=true→¬ Free ops i j):lastB (fun i=>(S i || i == j) && w i) ops.size=some j:=by
 refine lastB_at _ r.lt (by simp [hj]) fun k h1 h2=>?_
 cases hwk:w k with
 | false=>simp
 | true =>
  cases hS:S k with
  | false=>simp;omega
  | true=>exact absurd (r.free hb hS h1) (hw k h2 hwk)
theorem lastNot {S w:Nat→Bool} {j:Nat} (hj:w j=false):lastB (fun i=>(S i || i == j) && w i) ops.size=lastB (fun i=>S i && w i) ops.size:=by
 refine lastB_congr _ fun i _=>?_
 by_cases h:i=j
 ·subst h;simp only [hj,Bool.and_false]
 ·have:(i == j)=false:=by simpa using h
  simp only [this,Bool.or_false]
structure Inv (P:Program) (ops:Array Oper) (p:Plan) (ρ0:Env) (W0:World) (S:Nat→Bool) (A:Act) (W:World) (ρ:Env):Prop where
 act:A=renA ρ (actAt ops p S)
 hok:HOK P.globals.size (heapAt ops p S) ρ W
 ext:Ext (p.h 0) (heapAt ops p S) ρ0 ρ W0 W
theorem Plan.OK.heapReady (ok:p.OK P ops) {S:Nat→Bool} {j:Nat} (r:Ready ops S j) {id:Nat} (hh:p.hid j id=false):(heapAt ops p S).m id=(p.h j).m id:=by
 rw [ok.heapText id j (Nat.le_of_lt r.lt)]
 simp only [heapAt]
 rw [r.last (w:=fun i=>p.eff i id) ok.back fun i hi he hf=>?_]
 have:=ok.cross i j hi r.lt hf id he
 rw [hh] at this;cases this
theorem lastB_none {p:Nat→Bool}:∀ n,lastB p n=none→∀ k,k < n→p k=false:=by
 intro n
 induction n with
 | zero=>intro _ k hk;omega
 | succ n ih =>
  intro h k hk
  rw [lastB] at h
  split at h
  ·cases h
  ·rename_i hp
   by_cases e:k=n
   ·subst e;simpa using hp
   ·exact ih h k (by omega)
theorem lastB_max {p:Nat→Bool} {j:Nat}:∀ n,lastB p n=some j→∀ k,j < k→k < n→p k=false:=by
 intro n
 induction n with
 | zero=>intro h;cases h
 | succ n ih =>
  intro h k hk hn
  rw [lastB] at h
  split at h
  ·injection h with h;omega
  ·rename_i hp
   by_cases e:k=n
   ·subst e;simpa using hp
   ·exact ih h k hk (by omega)
theorem Plan.OK.staReady (ok:p.OK P ops) {S:Nat→Bool} {j:Nat} (r:Ready ops S j) {b c:Nat} {v:Value} (h1:∀ i,i < j→Free ops i j→p.eff i b=false) (h2:∀ i,i < ops.size→j < i→Free ops i j→p.eff i b=true→StC (p.h (i+1)) b c v) (h3:StC (p.h j) b c v):StC (heapAt ops p S) b c v:=by
 have key:∀ k,j < k→k < ops.size→(S k && p.eff k b)=true→Free ops k j:=fun k hk _ he=>by
  simp only [Bool.and_eq_true] at he
  exact r.free ok.back he.1 hk
 have low:(∀ k,j < k→k < ops.size→(S k && p.eff k b)=false)→(heapAt ops p S).m b=(p.h j).m b:=by
  intro hno
  rw [ok.heapText b j (Nat.le_of_lt r.lt)]
  simp only [heapAt]
  rw [← lastB_cut (p:=fun i=>p.eff i b) ops.size (Nat.le_of_lt r.lt)]
  rw [lastB_congr (q:=fun i=>decide (i < j) && p.eff i b) ops.size fun i hi=>?_]
  by_cases hij:i < j
  ·simp only [hij,decide_true,Bool.true_and]
   cases he:p.eff i b with
   | false=>simp
   | true =>
    have hf:¬ Free ops i j:=fun hf=>by have:=h1 i hij hf;rw [he] at this;cases this
    have ha:Anc ops j i:=by
     by_cases ha:Anc ops j i
     ·exact ha
     ·by_cases hb:Anc ops i j
      ·have:=hb.lt ok.back;omega
      ·exact absurd ⟨by omega,ha,hb⟩ hf
    rw [r.anc ha (.inr rfl)];rfl
  ·simp only [hij,decide_false,Bool.false_and]
   by_cases e:i=j
   ·subst e;rw [r.nj];rfl
   ·exact hno i (by omega) hi
 have hn:∀ {k},k≤ops.size→(p.h k).n≤(heapAt ops p S).n:=fun {k} hk=>ok.monoLe ops.size k hk (Nat.le_refl _)
 obtain ⟨q1,B,q2,q3⟩:=h3
 cases hl:lastB (fun i=>S i && p.eff i b) ops.size with
 | none =>
  exact ⟨Nat.lt_of_lt_of_le q1 (hn (Nat.le_of_lt r.lt)),B,(low fun k _ hk=>lastB_none _ hl k hk).trans q2,q3⟩
 | some i =>
  obtain ⟨g1,g2⟩:=lastB_lt _ hl
  by_cases hij:j < i
  ·obtain ⟨t1,B',t2,t3⟩:=h2 i g1 hij (key i hij g1 g2) (by simp only [Bool.and_eq_true] at g2;exact g2.2)
   refine ⟨Nat.lt_of_lt_of_le t1 (hn g1),B',?_,t3⟩
   simp only [heapAt,hl];exact t2
  ·exact ⟨Nat.lt_of_lt_of_le q1 (hn (Nat.le_of_lt r.lt)),B,(low fun k hk hk2=>lastB_max _ hl k (by omega) hk2).trans q2,q3⟩
theorem Plan.OK.slotReady (ok:p.OK P ops) {S:Nat→Bool} {j:Nat} (r:Ready ops S j) {t:Nat} (hf:∀ i,i < ops.size→Free ops i j→dstOf ops i≠some t):(actAt ops p S).tmps[t]?=(p.a j).tmps[t]?:=by
 by_cases ht:t < (p.a 0).tmps.size
 ·rw [ok.slotText t ht j (Nat.le_of_lt r.lt)]
  simp only [actAt,Array.getElem?_map]
  rw [Array.getElem?_eq_getElem (by simpa using ht)]
  simp only [Array.getElem_range,Option.map_some,slotAt]
  rw [r.last (w:=fun i=>dstOf ops i == some t) ok.back fun i hi he hf'=>hf i hi hf' (by simpa using he)]
 ·rw [Array.getElem?_eq_none (by simp [actAt];omega),Array.getElem?_eq_none (by rw [(ok.sizeText j (Nat.le_of_lt r.lt)).1];omega)]
end
end Go.AH
namespace Go.AH
variable {P:Program} {ops:Array Oper} {p:Plan}
def addS (S:Nat→Bool) (j:Nat):Nat→Bool:=fun i=>S i || i == j
theorem slot_avoid (ok:p.OK P ops) {ρa:Env} {Wa:World} (hb0:bndA (p.h 0).n (p.a 0)) (ho0:HOK P.globals.size (p.h 0) ρa Wa) {S:Nat→Bool} {j:Nat} (r:Ready ops S j) (t:Nat) :
 ment (fun id=>¬ ((p.h j).n≤id∧id < (p.h (j+1)).n)) (slotAt ops p S t):=by
 have hlt:=r.lt
 unfold slotAt
 cases hl:lastB (fun i=>S i && dstOf ops i == some t) ops.size with
 | none =>
  simp only [Array.getD_eq_getD_getElem?]
  have h0:=ok.monoLe j 0 (by omega) (by omega)
  refine ment_of_bnd (n:=(p.h 0).n) (fun i hi=>by omega) _ ?_
  cases hg:(p.a 0).tmps[t]? with
  | none=>simp
  | some u=>exact hb0.1 u (Array.mem_of_getElem? hg)
 | some i =>
  simp only
  obtain ⟨hi,hp⟩:=lastB_lt _ hl
  simp only [Bool.and_eq_true,beq_iff_eq] at hp
  by_cases hij:i < j
  ·have h1:=(ok.text hb0 ho0 ops.size (Nat.le_refl _)).2.2 i hi
   have h2:=ok.monoLe j (i+1) (by omega) (by omega)
   exact ment_of_bnd (fun k hk=>by omega) _ h1
  ·have hne:i≠j:=fun e=>by subst e;rw [r.nj] at hp;cases hp.1
   exact (ok.apart j i hlt hi (r.free ok.back hp.1 (by omega)).symm).1
theorem block_avoid (ok:p.OK P ops) {ρa:Env} {Wa:World} (hb0:bndA (p.h 0).n (p.a 0)) (ho0:HOK P.globals.size (p.h 0) ρa Wa) {S:Nat→Bool} {j:Nat} (r:Ready ops S j) {id:Nat} {b:Blk} (hb:(heapAt ops p S).m id=some b) (he:p.eff j id=false) :
 ¬ ((p.h j).n≤id∧id < (p.h (j+1)).n)∧∀ v∈b.cells,ment (fun id=>¬ ((p.h j).n≤id∧id < (p.h (j+1)).n)) v:=by
 have hlt:=r.lt
 simp only [heapAt] at hb
 cases hl:lastB (fun i=>S i && p.eff i id) ops.size with
 | none =>
  rw [hl] at hb
  simp only at hb
  have h0:=ok.monoLe j 0 (by omega) (by omega)
  have h1:=ho0.lt _ _ hb
  exact ⟨by omega,fun v hv=>ment_of_bnd (n:=(p.h 0).n) (fun i hi=>by omega) _ (ho0.bd _ _ hb v hv)⟩
 | some i =>
  rw [hl] at hb
  simp only at hb
  obtain ⟨hi,hp⟩:=lastB_lt _ hl
  simp only [Bool.and_eq_true] at hp
  obtain ⟨⟨ρ1,W1,ho1⟩,_,_⟩:=ok.text hb0 ho0 (i+1) (by omega)
  have h3:=ho1.lt _ _ hb
  by_cases hij:i < j
  ·have h2:=ok.monoLe j (i+1) (by omega) (by omega)
   exact ⟨by omega,fun v hv=>ment_of_bnd (fun k hk=>by omega) _ (ho1.bd _ _ hb v hv)⟩
  ·have hne:i≠j:=fun e=>by subst e;rw [r.nj] at hp;cases hp.1
   have hf:=(r.free ok.back hp.1 (by omega)).symm
   refine ⟨fun hr=>?_,fun v hv=>(ok.apart j i hlt hi hf).2 id b hp.2 hb v hv⟩
   have h4:(p.h j).m id=none:=by
    cases hm:(p.h j).m id with
    | none=>rfl
    | some c =>
     obtain ⟨⟨ρ2,W2,ho2⟩,_,_⟩:=ok.text hb0 ho0 j (by omega)
     have:=ho2.lt _ _ hm;omega
   have h5:(p.h (j+1)).m id=none:=by rw [ok.effs j hlt id he];exact h4
   have h6:=ok.freshLe id (i+1) (j+1) (by omega) (by omega) hr.2 h5
   rw [h6] at hb;cases hb
theorem heapAt_add (ok:p.OK P ops) {S:Nat→Bool} {j:Nat} (r:Ready ops S j) (id:Nat):(heapAt ops p (addS S j)).m id=if p.eff j id then (p.h (j+1)).m id else (heapAt ops p S).m id:=by
 simp only [heapAt,addS]
 cases he:p.eff j id with
 | true =>
  rw [r.lastJ (w:=fun i=>p.eff i id) ok.back he fun i hi hei hf=>?_]
  ·simp
  ·have:=ok.cross i j hi r.lt hf id hei
   rw [ok.ehid j r.lt id he] at this;cases this
 | false=>rw [lastNot (w:=fun i=>p.eff i id) he];simp
theorem slotAt_add (ok:p.OK P ops) {S:Nat→Bool} {j:Nat} (r:Ready ops S j) (t:Nat):slotAt ops p (addS S j) t=if dstOf ops j=some t then p.v j else slotAt ops p S t:=by
 simp only [slotAt,addS]
 by_cases he:dstOf ops j=some t
 ·rw [r.lastJ (w:=fun i=>dstOf ops i == some t) ok.back (by simp [he]) fun i hi hei hf=>?_]
  ·simp [he]
  ·have hoj:ops[j]?=some (ops[j]'r.lt):=Array.getElem?_eq_getElem r.lt
   have:=(ok.slots i j _ t hoj hi hf (by simpa using hei)).2.1
   have hd:dstOf ops j=(ops[j]'r.lt).dst:=by simp [dstOf,hoj]
   rw [hd] at he
   exact this he
 ·rw [lastNot (w:=fun i=>dstOf ops i == some t) (by simp [he])];simp [he]
theorem put_act {S:Nat→Bool} {j:Nat} {o:Oper} (ok:p.OK P ops) (r:Ready ops S j) (ho:ops[j]?=some o) {ρ ρ'':Env} {u:Value} (hu:u=ren ρ'' (p.v j)) (hs:∀ t,ren ρ'' (slotAt ops p S t)=ren ρ (slotAt ops p S t)) (hd:∀ d∈(p.a 0).defers,renD ρ'' d=renD ρ d) :
 (renA ρ (actAt ops p S)).put o.dst u=renA ρ'' (actAt ops p (addS S j)):=by
 have hdst:dstOf ops j=o.dst:=by simp [dstOf,ho]
 have h1:((renA ρ (actAt ops p S)).put o.dst u).defers=(renA ρ'' (actAt ops p (addS S j))).defers:=by
  have:((renA ρ (actAt ops p S)).put o.dst u).defers=(renA ρ (actAt ops p S)).defers:=by cases o.dst<;>rfl
  rw [this]
  simp only [renA,actAt]
  exact (List.map_congr_left hd).symm
 have h2:((renA ρ (actAt ops p S)).put o.dst u).tmps=(renA ρ'' (actAt ops p (addS S j))).tmps:=by
  apply Array.ext'
  apply List.ext_getElem?
  intro t
  rw [Array.getElem?_toList,Array.getElem?_toList,put_get]
  simp only [renA,actAt,Array.size_map,Array.size_range,Array.getElem?_map]
  by_cases ht:t < (p.a 0).tmps.size
  ·rw [Array.getElem?_eq_getElem (by simpa using ht)]
   simp only [Array.getElem_range,Option.map_some,slotAt_add ok r,hdst]
   by_cases he:o.dst=some t
   ·simp [he,ht,hu]
   ·simp [he,hs]
  ·rw [Array.getElem?_eq_none (by simpa using ht),if_neg (fun hh=>ht hh.2)];simp
 generalize (renA ρ (actAt ops p S)).put o.dst u=X at *
 generalize renA ρ'' (actAt ops p (addS S j))=Y at *
 cases X;cases Y;simp_all
theorem Inv.skip (ok:p.OK P ops) {ρ0:Env} {W0:World} {S:Nat→Bool} {A:Act} {W:World} {ρ:Env} (inv:Inv P ops p ρ0 W0 S A W ρ) {j:Nat} {o:Oper} (r:Ready ops S j) (ho:ops[j]?=some o) (hv:p.v j=undef) (hh:p.h (j+1)=p.h j) :
 Inv P ops p ρ0 W0 (addS S j) (A.put o.dst undef) W ρ:=by
 have heq:heapAt ops p (addS S j)=heapAt ops p S:=by
  have:(heapAt ops p (addS S j)).m=(heapAt ops p S).m:=by
   funext id
   rw [heapAt_add ok r]
   cases he:p.eff j id with
   | false=>simp
   | true=>simp only [if_true];rw [hh,ok.heapReady r (ok.ehid j r.lt id he)]
  unfold heapAt at *
  simp only at this ⊢
  rw [this]
 refine ⟨?_,by rw [heq];exact inv.hok,by rw [heq];exact inv.ext⟩
 rw [inv.act]
 exact put_act ok r ho (by rw [hv];simp) (fun _=>rfl) (fun _ _=>rfl)
theorem heapAt_still (ok:p.OK P ops) {S:Nat→Bool} {j:Nat} (r:Ready ops S j) (he:∀ id,p.eff j id=false):heapAt ops p (addS S j)=heapAt ops p S:=by
 have:(heapAt ops p (addS S j)).m=(heapAt ops p S).m:=by
  funext id
  rw [heapAt_add ok r,he id];rfl
 unfold heapAt at *
 simp only at this ⊢
 rw [this]
theorem Inv.still (ok:p.OK P ops) {ρ0:Env} {W0:World} (hb0:bndA (p.h 0).n (p.a 0)) (ho0:HOK P.globals.size (p.h 0) ρ0 W0) {S:Nat→Bool} {A:Act} {W:World} {ρ:Env} (inv:Inv P ops p ρ0 W0 S A W ρ) {j:Nat} {o:Oper} (r:Ready ops S j) (ho:ops[j]?=some o) (he:∀ id,p.eff j id=false)
 {ρ':Env} {W':World} (hok':HOK P.globals.size (heapAt ops p S) ρ' W') (hE:Ext (heapAt ops p S) (heapAt ops p S) ρ ρ' W W'):Inv P ops p ρ0 W0 (addS S j) (A.put o.dst (ren ρ' (p.v j))) W' ρ':=by
 have heq:=heapAt_still ok r he
 refine ⟨?_,by rw [heq];exact hok',by rw [heq];exact inv.ext.trans hE⟩
 rw [inv.act]
 refine put_act ok r ho rfl (fun t=>?_) (fun d hd=>?_)
 ·have hb:bnd (heapAt ops p S).n (slotAt ops p S t):=by
   unfold slotAt
   have h0:(p.h 0).n≤(heapAt ops p S).n:=ok.monoLe ops.size 0 (Nat.zero_le _) (Nat.le_refl _)
   cases hl:lastB (fun i=>S i && dstOf ops i == some t) ops.size with
   | none =>
    simp only [Array.getD_eq_getD_getElem?]
    cases hg:(p.a 0).tmps[t]? with
    | none=>simp
    | some u=>exact bnd_mono h0 _ (hb0.1 u (Array.mem_of_getElem? hg))
   | some i =>
    obtain ⟨hi,_⟩:=lastB_lt _ hl
    exact bnd_mono (ok.monoLe ops.size (i+1) hi (Nat.le_refl _)) _ ((ok.text hb0 ho0 ops.size (Nat.le_refl _)).2.2 i hi)
  exact ren_agree hE.agree _ hb
 ·exact renD_agree (n:=(p.h 0).n) (fun i hi=>hE.agree i (Nat.lt_of_lt_of_le hi (ok.monoLe ops.size 0 (Nat.zero_le _) (Nat.le_refl _)))) (hb0.2 d hd)
def mixEnv (ρ ρ':Env) (lo hi:Nat):Env:={ loc:=fun i=>if lo≤i∧i < hi then ρ'.loc i else ρ.loc i,cap:=fun i=>if lo≤i∧i < hi then ρ'.cap i else ρ.cap i,sh:=fun i=>if lo≤i∧i < hi then ρ'.sh i else ρ.sh i }
theorem mix_out {ρ ρ':Env} {lo hi i:Nat} (h:¬ (lo≤i∧i < hi)):(mixEnv ρ ρ' lo hi).loc i=ρ.loc i∧(mixEnv ρ ρ' lo hi).cap i=ρ.cap i∧(mixEnv ρ ρ' lo hi).sh i=ρ.sh i:=by simp only [mixEnv,if_neg h,and_self]
theorem mix_in {ρ ρ':Env} {lo hi:Nat} (ha:Agree lo ρ ρ'):Agree hi ρ' (mixEnv ρ ρ' lo hi):=by
 intro i hi'
 by_cases h:lo≤i
 ·simp only [mixEnv,if_pos (show lo≤i∧i < hi from ⟨h,hi'⟩),and_self]
 ·have:=ha i (by omega)
  simp only [mixEnv,if_neg (show ¬ (lo≤i∧i < hi) from fun hh=>h hh.1),this,and_self]
theorem Inv.chunk (ok:p.OK P ops) {ρ0:Env} {W0:World} (hb0:bndA (p.h 0).n (p.a 0)) (ho0:HOK P.globals.size (p.h 0) ρ0 W0) {S:Nat→Bool} {A:Act} {W:World} {ρ:Env} (inv:Inv P ops p ρ0 W0 S A W ρ) {j:Nat} (r:Ready ops S j) :
 HOK P.globals.size ((p.h j).hide (p.hid j)) ρ W:=by
 have key:∀ id b,((p.h j).hide (p.hid j)).m id=some b→(heapAt ops p S).m id=some b:=by
  intro id b hb
  obtain ⟨h1,h2⟩:=hide_some.1 hb
  rw [ok.heapReady r h1];exact h2
 obtain ⟨⟨ρ1,W1,ho1⟩,_,_⟩:=ok.text hb0 ho0 j (Nat.le_of_lt r.lt)
 exact ⟨fun id b hb=>inv.hok.fits _ _ (key _ _ hb),fun id b hb=>ho1.lt _ _ (hide_some.1 hb).2,fun i k b c hi0 hb hc=>inv.hok.inj _ _ _ _ hi0 (key _ _ hb) (key _ _ hc),fun id b hb=>ho1.bd _ _ (hide_some.1 hb).2,inv.hok.glob,ho1.gle,ho1.gow⟩
theorem Inv.run (ok:p.OK P ops) {ρ0:Env} {W0:World} (hb0:bndA (p.h 0).n (p.a 0)) (ho0:HOK P.globals.size (p.h 0) ρ0 W0) {S:Nat→Bool} {A:Act} {W:World} {ρ:Env} (inv:Inv P ops p ρ0 W0 S A W ρ) {j:Nat} {o:Oper} (r:Ready ops S j) (ho:ops[j]?=some o)
 {ρ':Env} {W':World} (hv:bnd (p.h (j+1)).n (p.v j)) (hok':HOK P.globals.size ((p.h (j+1)).hide (p.hid j)) ρ' W') (hE:Ext ((p.h j).hide (p.hid j)) ((p.h (j+1)).hide (p.hid j)) ρ ρ' W W') :
 Inv P ops p ρ0 W0 (addS S j) (A.put o.dst (ren ρ' (p.v j))) W' (mixEnv ρ ρ' (p.h j).n (p.h (j+1)).n):=by
 have hlt:=r.lt
 have hag:Agree (p.h (j+1)).n ρ' (mixEnv ρ ρ' (p.h j).n (p.h (j+1)).n):=mix_in hE.agree
 have hm0:=ok.monoLe j 0 (by omega) (by omega)
 have hm1:=ok.monoLe ops.size (j+1) (by omega) (Nat.le_refl _)
 have hm2:=ok.mono j hlt
 have parts:∀ id b,(heapAt ops p (addS S j)).m id=some b→(((p.h (j+1)).hide (p.hid j)).m id=some b∧id < (p.h (j+1)).n)∨(p.hid j id=true∧p.eff j id=false∧(heapAt ops p S).m id=some b):=by
  intro id b hb
  rw [heapAt_add ok r] at hb
  cases he:p.eff j id with
  | true =>
   rw [he] at hb
   simp only [if_true] at hb
   have h1:((p.h (j+1)).hide (p.hid j)).m id=some b:=hide_some.2 ⟨ok.ehid j hlt id he,hb⟩
   exact .inl ⟨h1,hok'.lt _ _ h1⟩
  | false =>
   rw [he] at hb
   simp only [Bool.false_eq_true,if_false] at hb
   cases hh:p.hid j id with
   | true=>exact .inr ⟨rfl,rfl,hb⟩
   | false =>
    have h1:((p.h (j+1)).hide (p.hid j)).m id=some b:=hide_some.2 ⟨hh,by rw [ok.effs j hlt id he,← ok.heapReady r hh];exact hb⟩
    exact .inl ⟨h1,hok'.lt _ _ h1⟩
 have hkept:∀ id b,p.hid j id=true→(heapAt ops p S).m id=some b→W'.heap[ρ.loc id]?=W.heap[ρ.loc id]?:=by
  intro id b hh hb
  refine hE.kept _ (inv.hok.fits _ _ hb).lt fun k c hk0 hk hl=>?_
  obtain ⟨hk1,hk2⟩:=hide_some.1 hk
  have:=inv.hok.inj _ _ _ _ hk0 (show (heapAt ops p S).m k=some c by rw [ok.heapReady r hk1];exact hk2) hb hl
  subst this
  rw [hh] at hk1;cases hk1
 have hmix:∀ (i k:Nat) (b c:Blk),rwM≤i∨rwM≤k→((p.h (j+1)).hide (p.hid j)).m i=some b→i < (p.h (j+1)).n→p.hid j k=true→p.eff j k=false→(heapAt ops p S).m k=some c →
  (mixEnv ρ ρ' (p.h j).n (p.h (j+1)).n).loc i=(mixEnv ρ ρ' (p.h j).n (p.h (j+1)).n).loc k→False:=by
  intro i k b c hor hi hin hk he hc hl
  rw [(hag i hin).1,(mix_out (block_avoid ok hb0 ho0 r hc he).1).1] at hl
  by_cases hi0:rwM≤i
  ·obtain ⟨q,d,hq0,hq,hql⟩:=hE.own i b hi0 hi (by rw [hl];exact (inv.hok.fits _ _ hc).lt)
   obtain ⟨hq1,hq2⟩:=hide_some.1 hq
   have:=inv.hok.inj _ _ _ _ hq0 (show (heapAt ops p S).m q=some d by rw [ok.heapReady r hq1];exact hq2) hc (by rw [hql,hl])
   subst this
   rw [hk] at hq1;cases hq1
  ·have hjn:i < (p.h j).n:=by
    obtain ⟨⟨ρ1,W1,ho1⟩,_,_⟩:=ok.text hb0 ho0 j (Nat.le_of_lt r.lt)
    have:=ho1.gle;omega
   obtain ⟨d,hd,_⟩:=hE.surv i b hjn hi
   obtain ⟨hd1,hd2⟩:=hide_some.1 hd
   have:=inv.hok.inj _ _ _ _ (hor.resolve_left hi0) hc (show (heapAt ops p S).m i=some d by rw [ok.heapReady r hd1];exact hd2) (by rw [← hl,(hE.agree i hjn).1])
   subst this
   rw [hk] at hd1;cases hd1
 refine ⟨?_,⟨fun id b hb=>?_,fun id b hb=>?_,fun i k b c hi0 hb hc hl=>?_,fun id b hb v hv=>?_,fun g hg=>?_,?_,ho0.gow⟩,⟨fun i hi=>?_,?_,fun c hc hn=>?_,Nat.le_trans inv.ext.size hE.size,fun id b hid0 hb hl=>?_,hE.tape.trans inv.ext.tape,hE.os.trans inv.ext.os,hE.output.trans inv.ext.output,fun id b hin hb=>?_⟩⟩
 ·rw [inv.act]
  refine put_act ok r ho (ren_agree hag _ hv).symm (fun t=>?_) (fun d hd=>?_)
  ·exact ren_ment (fun i hi=>mix_out hi) _ (slot_avoid ok hb0 ho0 r t)
  ·exact renD_agree (n:=(p.h 0).n) (fun i hi=>mix_out (by omega)) (hb0.2 d hd)
 ·rcases parts id b hb with ⟨h1,h2⟩|⟨h1,h2,h3⟩
  ·rw [(hag id h2).1]
   exact (hok'.fits _ _ h1).agree hag h2 (hok'.bd _ _ h1)
  ·obtain ⟨h4,h5⟩:=block_avoid ok hb0 ho0 r h3 h2
   rw [(mix_out h4).1,hkept id b h1 h3]
   exact (inv.hok.fits _ _ h3).conv rfl rfl (Array.map_congr_left fun v hv=>ren_ment (fun i hi=>mix_out hi) v (h5 v hv)) (fun _=>(mix_out h4).2.1) (mix_out h4).2.2 fun h=>h
 ·rcases parts id b hb with ⟨h1,h2⟩|⟨h1,h2,h3⟩
  ·exact Nat.lt_of_lt_of_le h2 hm1
  ·exact inv.hok.lt _ _ h3
 ·rcases parts i b hb with ⟨h1,h2⟩|⟨h1,h2,h3⟩<;>rcases parts k c hc with ⟨g1,g2⟩|⟨g1,g2,g3⟩
  ·rw [(hag i h2).1,(hag k g2).1] at hl
   exact hok'.inj _ _ _ _ hi0 h1 g1 hl
  ·exact (hmix i k b c (.inl hi0) h1 h2 g1 g2 g3 hl).elim
  ·exact (hmix k i c b (.inr hi0) g1 g2 h1 h2 h3 hl.symm).elim
  ·rw [(mix_out (block_avoid ok hb0 ho0 r h3 h2).1).1,(mix_out (block_avoid ok hb0 ho0 r g3 g2).1).1] at hl
   exact inv.hok.inj _ _ _ _ hi0 h3 g3 hl
 ·rcases parts id b hb with ⟨h1,h2⟩|⟨h1,h2,h3⟩
  ·exact bnd_mono hm1 v (hok'.bd _ _ h1 v hv)
  ·exact inv.hok.bd _ _ h3 v hv
 ·have:=ho0.gn
  have hmo:=mix_out (ρ:=ρ) (ρ':=ρ') (show ¬ ((p.h j).n≤g∧g < (p.h (j+1)).n) by omega)
  rw [hmo.1,hmo.2.2]
  exact inv.hok.glob g hg
 ·exact inv.hok.gle
 ·have h1:=inv.ext.agree i hi
  have h2:=mix_out (ρ:=ρ) (ρ':=ρ') (show ¬ ((p.h j).n≤i∧i < (p.h (j+1)).n) by omega)
  exact ⟨h2.1.trans h1.1,h2.2.1.trans h1.2.1,h2.2.2.trans h1.2.2⟩
 ·exact inv.ext.mono
 ·rw [← inv.ext.kept c hc hn]
  refine hE.kept c (Nat.lt_of_lt_of_le hc inv.ext.size) fun k b hk0 hk hl=>?_
  obtain ⟨hk1,hk2⟩:=hide_some.1 hk
  obtain ⟨q,d,hq0,hq,hql⟩:=inv.ext.own k b hk0 (by rw [ok.heapReady r hk1];exact hk2) (by rw [hl];exact hc)
  exact hn q d hq0 hq (by rw [hql,hl])
 ·rcases parts id b hb with ⟨h1,h2⟩|⟨h1,h2,h3⟩
  ·rw [(hag id h2).1] at hl ⊢
   obtain ⟨k,c,hk0,hk,hkl⟩:=hE.own id b hid0 h1 (Nat.lt_of_lt_of_le hl inv.ext.size)
   obtain ⟨hk1,hk2⟩:=hide_some.1 hk
   obtain ⟨q,d,hq0,hq,hql⟩:=inv.ext.own k c hk0 (by rw [ok.heapReady r hk1];exact hk2) (by rw [hkl];exact hl)
   exact ⟨q,d,hq0,hq,hql.trans hkl⟩
  ·have h4:=(mix_out (ρ:=ρ) (ρ':=ρ') (block_avoid ok hb0 ho0 r h3 h2).1).1
   rw [h4] at hl ⊢
   exact inv.ext.own id b hid0 h3 hl
 ·have hloc:=(inv.ext.agree id hin).1
  rcases parts id b hb with ⟨h1,h2⟩|⟨h1,h2,h3⟩
  ·obtain ⟨c,hc,q1,q2⟩:=hE.surv id b (show id < (p.h j).n by omega) h1
   obtain ⟨hc1,hc2⟩:=hide_some.1 hc
   obtain ⟨d,r1,r2,r3⟩:=inv.ext.surv id c hin (by rw [ok.heapReady r hc1];exact hc2)
   rw [hloc] at q2
   exact ⟨d,r1,Nat.le_trans r2 q1,r3.trans q1 q2⟩
  ·have hk:=hkept id b h1 h3
   rw [hloc] at hk
   rw [hk]
   exact inv.ext.surv id b hin h3
end Go.AH
namespace Go.AH
variable {P:Program} {ops:Array Oper} {p:Plan}
def setOf (listed:Array Bool):Nat→Bool:=fun i=>listed.getD i false
structure Shut (ops:Array Oper) (listed:Array Bool):Prop where
 size:listed.size=ops.size
 closed:∀ k i,setOf listed k=true→Dep ops k i→setOf listed i=true
def undone (ops:Array Oper) (listed:Array Bool):Nat:=((List.range ops.size).filter fun i=>!setOf listed i).length
theorem getD_tf {listed:Array Bool} {i:Nat} (hi:i < listed.size):listed.getD i true=listed.getD i false:=by simp [Array.getD_eq_getD_getElem?,Array.getElem?_eq_getElem hi]
theorem ready_of {listed:Array Bool} (hs:Shut ops listed) {j:Nat} (h:j∈Region.ready .any ops listed):Ready ops (setOf listed) j:=by
 obtain ⟨h1,oi,hoi,hall⟩:=mem_ready.1 h
 have hj:j < ops.size:=(Array.getElem?_eq_some_iff.1 hoi).1
 refine ⟨hj,?_,hs.closed,?_⟩
 ·rw [getD_tf (by rw [hs.size];exact hj)] at h1;exact h1
 ·rintro i ⟨o,ho,e,he,hb,rfl⟩
  rw [hoi] at ho;injection ho with ho;subst ho
  exact hall e he hb
theorem all_done (hb:∀ j i,Dep ops j i→i < j) {listed:Array Bool} (hs:Shut ops listed) (h:Region.ready .any ops listed=[]):∀ j,j < ops.size→setOf listed j=true:=by
 intro j
 induction j using Nat.strongRecOn with
 | ind j ih =>
  intro hj
  cases hd:setOf listed j with
  | true=>rfl
  | false =>
   have:j∈Region.ready .any ops listed:=by
    refine mem_ready.2 ⟨?_,ops[j],Array.getElem?_eq_getElem hj,fun e he hbi=>?_⟩
    ·rw [getD_tf (by rw [hs.size];exact hj)];exact hd
    ·have hdep:Dep ops j e.on:=⟨ops[j],Array.getElem?_eq_getElem hj,e,he,hbi,rfl⟩
     have:=hb _ _ hdep
     exact ih e.on this (by omega)
   rw [h] at this;cases this
theorem setOf_set {listed:Array Bool} {j:Nat} (hj:j < listed.size):setOf (listed.setIfInBounds j true)=addS (setOf listed) j:=by
 funext i
 simp only [setOf,addS,Array.getD_eq_getD_getElem?,Array.getElem?_setIfInBounds]
 by_cases h:j=i
 ·subst h;simp [hj]
 ·have:(i == j)=false:=by simp;omega
  simp [h,this]
theorem Shut.add {listed:Array Bool} (hs:Shut ops listed) {j:Nat} (r:Ready ops (setOf listed) j):Shut ops (listed.setIfInBounds j true):=by
 refine ⟨by simp [hs.size],?_⟩
 rw [setOf_set (by rw [hs.size];exact r.lt)]
 intro k i hk hd
 simp only [addS,Bool.or_eq_true,beq_iff_eq] at hk ⊢
 rcases hk with hk|rfl
 ·exact .inl (hs.closed _ _ hk hd)
 ·exact .inl (r.deps _ hd)
theorem filter_lt {p q:Nat→Bool}:∀ (l:List Nat),(∀ i∈l,q i=true→p i=true)→(∃ j∈l,p j=true∧q j=false)→(l.filter q).length < (l.filter p).length:=by
 intro l
 induction l with
 | nil=>rintro _ ⟨j,hj,_⟩;cases hj
 | cons a l ih =>
  intro h ⟨j,hj,hp,hq⟩
  have hle:∀ l:List Nat,(∀ i∈l,q i=true→p i=true)→(l.filter q).length≤(l.filter p).length:=by
   intro l
   induction l with
   | nil=>intro _;exact Nat.le_refl _
   | cons b l ih2 =>
    intro hl
    have:=ih2 fun i hi=>hl i (by simp [hi])
    cases hqb:q b with
    | true=>simp [hqb,hl b (by simp) hqb];exact this
    | false=>cases hpb:p b<;>simp [hqb,hpb]<;>omega
  rcases List.mem_cons.1 hj with rfl|hj
  ·have:=hle l fun i hi=>h i (by simp [hi])
   simp [hp,hq];omega
  ·have:=ih (fun i hi=>h i (by simp [hi])) ⟨j,hj,hp,hq⟩
   cases hqa:q a with
   | true=>simp [hqa,h a (by simp) hqa];omega
   | false=>cases hpa:p a<;>simp [hqa,hpa]<;>omega
theorem undone_add {listed:Array Bool} (hs:Shut ops listed) {j:Nat} (r:Ready ops (setOf listed) j):undone ops (listed.setIfInBounds j true) < undone ops listed:=by
 unfold undone
 rw [setOf_set (by rw [hs.size];exact r.lt)]
 refine filter_lt _ (fun i _ h=>?_) ⟨j,List.mem_range.2 r.lt,by simp [r.nj],by simp [addS]⟩
 simp only [addS,Bool.not_eq_true',Bool.or_eq_false_iff] at h ⊢
 exact h.1
theorem heapAt_all (ok:p.OK P ops) {S:Nat→Bool} (h:∀ j,j < ops.size→S j=true):heapAt ops p S=p.h ops.size:=by
 have:(heapAt ops p S).m=(p.h ops.size).m:=by
  funext id
  rw [ok.heapText id ops.size (Nat.le_refl _)]
  simp only [heapAt]
  rw [lastB_congr (q:=fun i=>p.eff i id) _ fun i hi=>by simp [h i hi]]
 have h2:(heapAt ops p S).n=(p.h ops.size).n:=rfl
 generalize heapAt ops p S=X at *
 generalize p.h ops.size=Y at *
 cases X;cases Y;simp_all
theorem actAt_all (ok:p.OK P ops) {S:Nat→Bool} (h:∀ j,j < ops.size→S j=true):actAt ops p S=p.a ops.size:=by
 have hsz:=ok.sizeText ops.size (Nat.le_refl _)
 have h1:(actAt ops p S).tmps=(p.a ops.size).tmps:=by
  apply Array.ext'
  apply List.ext_getElem?
  intro t
  rw [Array.getElem?_toList,Array.getElem?_toList]
  by_cases ht:t < (p.a 0).tmps.size
  ·rw [ok.slotText t ht ops.size (Nat.le_refl _)]
   simp only [actAt,Array.getElem?_map]
   rw [Array.getElem?_eq_getElem (by simpa using ht)]
   simp only [Array.getElem_range,Option.map_some,slotAt]
   rw [lastB_congr (q:=fun i=>dstOf ops i == some t) _ fun i hi=>by simp [h i hi]]
  ·rw [Array.getElem?_eq_none (by simp [actAt];omega),Array.getElem?_eq_none (by rw [hsz.1];omega)]
 have h2:(actAt ops p S).defers=(p.a ops.size).defers:=hsz.2.symm
 generalize actAt ops p S=X at *
 generalize p.a ops.size=Y at *
 cases X;cases Y;simp_all
theorem Plan.OK.any (ok:p.OK P ops) {ρ0:Env} {W0:World} (hb0:bndA (p.h 0).n (p.a 0)) (ho0:HOK P.globals.size (p.h 0) ρ0 W0) (Q:Exit→Act→World→Prop)
 (hQ:∀ ρ W,bndA (p.h ops.size).n (p.a ops.size)→HOK P.globals.size (p.h ops.size) ρ W→Ext (p.h 0) (p.h ops.size) ρ0 ρ W0 W→Q .normal (renA ρ (p.a ops.size)) W) :
 ∀ fuel (listed:Array Bool) (A:Act) (W:World) (ρ:Env),undone ops listed≤fuel→Shut ops listed→Inv P ops p ρ0 W0 (setOf listed) A W ρ→wpAny P .any ops Q fuel listed A W:=by
 have hfin:∀ (listed:Array Bool) (A:Act) (W:World) (ρ:Env),Shut ops listed→Inv P ops p ρ0 W0 (setOf listed) A W ρ→(∀ j,j < ops.size→setOf listed j=true)→Q .normal A W:=by
  intro listed A W ρ hs inv hall
  have h1:=inv.hok
  have h2:=inv.ext
  rw [heapAt_all ok hall] at h1 h2
  rw [inv.act,actAt_all ok hall]
  exact hQ ρ W (ok.text hb0 ho0 ops.size (Nat.le_refl _)).2.1 h1 h2
 intro fuel
 induction fuel with
 | zero =>
  intro listed A W ρ hu hs inv
  have hall:∀ j,j < ops.size→setOf listed j=true:=by
   intro j hj
   cases hd:setOf listed j with
   | true=>rfl
   | false =>
    have:j∈(List.range ops.size).filter fun i=>!setOf listed i:=by simp [hj,hd]
    unfold undone at hu
    have h0:((List.range ops.size).filter fun i=>!setOf listed i)=[]:=List.eq_nil_of_length_eq_zero (by omega)
    rw [h0] at this;cases this
  refine ⟨?_,hfin listed A W ρ hs inv hall⟩
  cases hr:Region.ready .any ops listed with
  | nil=>rfl
  | cons i l =>
   have hri:=ready_of hs (j:=i) (by rw [hr];simp)
   have:=hri.nj
   rw [hall i hri.lt] at this
   cases this
 | succ fuel ih =>
  intro listed A W ρ hu hs inv
  refine ⟨fun hr=>hfin listed A W ρ hs inv (all_done ok.back hs hr),fun j hj=>?_⟩
  have r:=ready_of hs hj
  have hoj:ops[j]?=some (ops[j]'r.lt):=Array.getElem?_eq_getElem r.lt
  have hs':=hs.add r
  have hu':undone ops (listed.setIfInBounds j true)≤fuel:=by have:=undone_add hs r;omega
  have hset:setOf (listed.setIfInBounds j true)=addS (setOf listed) j:=setOf_set (by rw [hs.size];exact r.lt)
  have hgd:Region.wanted (ops[j]'r.lt) (yielded ops A.tmps)=Region.wanted (ops[j]'r.lt) (yielded ops (p.a j).tmps):=by
   rw [inv.act,wanted_ren]
   unfold Region.wanted
   cases hg:(ops[j]'r.lt).guard with
   | none=>rfl
   | some gw =>
    obtain ⟨g,w⟩:=gw
    simp only [yielded]
    cases hdg:(ops[g]?).bind (·.dst) with
    | none=>rfl
    | some t =>
     have:=ok.slotReady r (t:=t) (fun i hi hf hd=>(ok.slots i j _ t hoj hi hf hd).2.2 g w hg hdg)
     simp only [Option.bind_some,this]
  unfold wpOp
  rw [hoj]
  simp only [hgd]
  rcases ok.step j _ hoj with ⟨hw,hv,hh⟩|⟨hw,hk,ht⟩|⟨hw,hk,hh,hne,b,c,h1,h2,h3,ht⟩
  ·rw [if_neg (by rw [hw];simp)]
   refine ih _ _ _ ρ hu' hs' ?_
   rw [hset]
   exact inv.skip ok r hoj hv hh
  ·rw [if_pos hw]
   left
   have hchunk:=inv.chunk ok hb0 ho0 r
   obtain ⟨⟨ρ1,W1,ho1⟩,hb1,_⟩:=ok.text hb0 ho0 j (Nat.le_of_lt r.lt)
   refine ht (fun x hx=>eval_bnd ho1.gn hb1 x (hk x hx)) ρ W hchunk A _ Q (fun x hx=>?_) fun ρ' W' hv' hok' hE=>?_
   ·rw [inv.act,eval_ren inv.hok.glob _ x (hk x hx)]
    congr 1
    cases x with
    | tmp t =>
     simp only [Act.eval,Array.getD_eq_getD_getElem?]
     rw [ok.slotReady r fun i hi hf hd=>(ok.slots i j _ t hoj hi hf hd).1 _ hx rfl]
    | const v=>rfl
    | global g=>rfl
    | func f=>rfl
   ·refine ih _ _ _ (mixEnv ρ ρ' (p.h j).n (p.h (j+1)).n) hu' hs' ?_
    rw [hset]
    exact inv.run ok hb0 ho0 r hoj hv' hok' hE
  ·rw [if_pos hw]
   left
   obtain ⟨⟨ρ1,W1,ho1⟩,hb1,_⟩:=ok.text hb0 ho0 j (Nat.le_of_lt r.lt)
   have hn:(p.h j).n≤(heapAt ops p (setOf listed)).n:=ok.monoLe ops.size j (Nat.le_of_lt r.lt) (Nat.le_refl _)
   refine ht _ (ok.staReady r h1 h2 h3) (fun x hx=>bnd_mono hn _ (eval_bnd ho1.gn hb1 x (hk x hx))) ρ W inv.hok A _ Q (fun x hx=>?_) fun ρ' W' hv' hok' hE=>?_
   ·rw [inv.act,eval_ren inv.hok.glob _ x (hk x hx)]
    congr 1
    cases x with
    | tmp t =>
     simp only [Act.eval,Array.getD_eq_getD_getElem?]
     rw [ok.slotReady r fun i hi hf hd=>(ok.slots i j _ t hoj hi hf hd).1 _ hx rfl]
    | const v=>rfl
    | global g=>rfl
    | func f=>rfl
   ·refine ih _ _ _ ρ' hu' hs' ?_
    rw [hset]
    exact inv.still ok hb0 ho0 r hoj hne hok' hE
theorem Plan.OK.region (ok:p.OK P ops) (hm:P.follows .mixedOrders=true) {id:Nat}:TC P (.region id ops true) (p.a 0) (p.h 0) .normal (p.a ops.size) (p.h ops.size):=by
 intro hb ρ W hok
 refine wp_region_any hm ?_
 have hok1:HOK P.globals.size (p.h 0) ρ { W with drawn:=W.drawn+1 }:=hok.heapEq rfl
 have h0:setOf (Array.replicate ops.size false)=fun _=>false:=by
  funext i
  simp only [setOf,Array.getD_eq_getD_getElem?,Array.getElem?_replicate]
  split<;>rfl
 have hl:∀ (w:Nat→Bool) (n:Nat),lastB (fun i=>false && w i) n=none:=by
  intro w n
  induction n with
  | zero=>rfl
  | succ n ih=>rw [lastB];simpa using ih
 refine ok.any hb hok _ (fun ρ' W' hb' hok' hE=>⟨rfl,ρ',rfl,hb',hok',hE⟩) ops.size _ _ _ ρ ?_ ⟨by simp,?_⟩ ?_
 ·unfold undone
  exact Nat.le_trans (List.length_filter_le _ _) (by simp)
 ·rw [h0];intro k i hk;cases hk
 ·rw [h0]
  have hmz:(heapAt ops p fun _=>false).m=(p.h 0).m:=by funext id;simp only [heapAt,hl]
  have hm0:=ok.monoLe ops.size 0 (Nat.zero_le _) (Nat.le_refl _)
  refine ⟨?_,⟨fun i b hb'=>?_,fun i b hb'=>?_,fun i j b c hi0 hb' hc'=>?_,fun i b hb' v hv=>?_,hok1.glob,Nat.le_trans hok1.gle hm0,hok1.gow⟩,⟨fun _ _=>⟨rfl,rfl,rfl⟩,hm0,fun _ _ _=>rfl,Nat.le_refl _,fun i b hi0 hb' _=>?_,rfl,rfl,rfl,fun i b _ hb'=>⟨b,by rw [← hmz];exact hb',Nat.le_refl _,.refl _ _⟩⟩⟩
  ·congr 1
   have:(actAt ops p fun _=>false).tmps=(p.a 0).tmps:=by
    apply Array.ext'
    apply List.ext_getElem?
    intro t
    rw [Array.getElem?_toList,Array.getElem?_toList]
    simp only [actAt,Array.getElem?_map]
    by_cases ht:t < (p.a 0).tmps.size
    ·rw [Array.getElem?_eq_getElem (by simpa using ht)]
     simp only [Array.getElem_range,Option.map_some,slotAt,hl]
     simp [Array.getD_eq_getD_getElem?,Array.getElem?_eq_getElem ht]
    ·rw [Array.getElem?_eq_none (by simpa using ht),Array.getElem?_eq_none (by omega)];rfl
   have h2:(actAt ops p fun _=>false).defers=(p.a 0).defers:=rfl
   generalize actAt ops p (fun _=>false)=X at *
   generalize p.a 0=Y at *
   cases X;cases Y;simp_all
  ·rw [hmz] at hb';exact hok1.fits i b hb'
  ·rw [hmz] at hb';exact Nat.lt_of_lt_of_le (hok1.lt i b hb') hm0
  ·rw [hmz] at hb' hc';exact hok1.inj i j b c hi0 hb' hc'
  ·rw [hmz] at hb';exact bnd_mono hm0 v (hok1.bd i b hb' v hv)
  ·rw [hmz] at hb';exact ⟨i,b,hi0,hb',rfl⟩
end Go.AH
namespace Go.AH
variable {P:Program} {ops:Array Oper}
structure Inf where
 o:Oper
 a:Act
 h:Hp
 v:Value
 h':Hp
 hid:Nat→Bool
 eff:Nat→Bool
 sta:Option (Nat × Nat):=none
structure Inf.OK (P:Program) (ops:Array Oper) (x:Inf):Prop where
 step:(Region.wanted x.o (yielded ops x.a.tmps)=false∧x.v=undef∧x.h'=x.h) ∨
  (Region.wanted x.o (yielded ops x.a.tmps)=true∧(∀ y∈x.o.op.operands,okOp P.globals.size y)∧TX P x.o x.a.eval (x.h.hide x.hid) x.v (x.h'.hide x.hid)) ∨
  (Region.wanted x.o (yielded ops x.a.tmps)=true∧(∀ y∈x.o.op.operands,okOp P.globals.size y)∧x.h'=x.h∧(∀ id,x.eff id=false)∧∃ b c,x.sta=some (b,c)∧StC x.h b c x.v∧∀ H,StC H b c x.v→TX P x.o x.a.eval H x.v H)
 mono:x.h.n≤x.h'.n
 fresh:∀ id,id < x.h.n→x.h.m id=none→x.h'.m id=none
 effs:∀ id,x.eff id=false→x.h'.m id=x.h.m id
 ehid:∀ id,x.eff id=true→x.hid id=false
def inR (x:Inf) (id:Nat):Prop:=x.h.n≤id∧id < x.h'.n
structure PairOK (ops:Array Oper) (x y:Inf):Prop where
 cross:∀ id,x.eff id=true→y.hid id=true
 slots:∀ t,x.o.dst=some t→(∀ z∈y.o.op.operands,z≠.tmp t)∧y.o.dst≠some t∧∀ g w,y.o.guard=some (g,w)→dstOf ops g≠some t
 val:ment (fun id=>¬ inR y id) x.v
 cells:∀ id b,x.eff id=true→x.h'.m id=some b→∀ v∈b.cells,ment (fun id=>¬ inR y id) v
structure StaOK (x y:Inf):Prop where
 fst:∀ b c,x.sta=some (b,c)→y.eff b=true→StC y.h' b c x.v
 snd:∀ b c,y.sta=some (b,c)→x.eff b=false
def chainI:List Inf→Act→Hp→Act→Hp→Prop
 | [],a,h,a',h'=>a=a'∧h=h'
 | x::l,a,h,a',h'=>x.a=a∧x.h=h∧chainI l (a.put x.o.dst x.v) x.h' a' h'
def planOf (l:List Inf) (aEnd:Act) (hEnd:Hp):Plan where
 a j:=match l[j]? with|some x=>x.a|none=>aEnd
 h j:=match l[j]? with|some x=>x.h|none=>hEnd
 v j:=match l[j]? with|some x=>x.v|none=>undef
 hid j:=match l[j]? with|some x=>x.hid|none=>fun _=>false
 eff j:=match l[j]? with|some x=>x.eff|none=>fun _=>false
theorem chain_next:∀ {l:List Inf} {a a':Act} {h h':Hp} (_:chainI l a h a' h') {j:Nat} {x:Inf} (_:l[j]?=some x),
 (planOf l a' h').a (j+1)=x.a.put x.o.dst x.v∧(planOf l a' h').h (j+1)=x.h':=by
 intro l
 induction l with
 | nil=>intro a a' h h' _ j x hx;simp at hx
 | cons y l ih =>
  intro a a' h h' hc j x hx
  obtain ⟨h1,h2,h3⟩:=hc
  cases j with
  | zero =>
   simp only [List.getElem?_cons_zero,Option.some.injEq] at hx
   subst hx
   cases l with
   | nil=>obtain ⟨h4,h5⟩:=h3;simp [planOf,h4,h5,h1]
   | cons z l=>obtain ⟨h4,h5,_⟩:=h3;simp [planOf,h4,h5,h1]
  | succ j =>
   simp only [List.getElem?_cons_succ] at hx
   have:=ih h3 hx
   simpa [planOf] using this
theorem chain_first {l:List Inf} {a a':Act} {h h':Hp} (hc:chainI l a h a' h'):(planOf l a' h').a 0=a∧(planOf l a' h').h 0=h:=by
 cases l with
 | nil=>obtain ⟨h1,h2⟩:=hc;simp [planOf,h1,h2]
 | cons x l=>obtain ⟨h1,h2,_⟩:=hc;simp [planOf,h1,h2]
theorem plan_ok {l:List Inf} {a a':Act} {h h':Hp} (hc:chainI l a h a' h') (hl:l.map (·.o)=ops.toList) (back:∀ j i,Dep ops j i→i < j) (ok:∀ x∈l,x.OK P ops)
 (pair:∀ i j x y,i < j→l[i]?=some x→l[j]?=some y→¬ Anc ops j i→(PairOK ops x y∧PairOK ops y x)∧StaOK x y):(planOf l a' h').OK P ops:=by
 have hlen:l.length=ops.size:=by rw [← Array.length_toList,← hl,List.length_map]
 have hget:∀ j,j < ops.size→∃ x,l[j]?=some x∧ops[j]?=some x.o∧x∈l:=by
  intro j hj
  have hj':j < l.length:=by omega
  refine ⟨l[j],List.getElem?_eq_getElem hj',?_,List.getElem_mem hj'⟩
  rw [← Array.getElem?_toList,← hl,List.getElem?_map,List.getElem?_eq_getElem hj'];rfl
 have hp:∀ i j x y,l[i]?=some x→l[j]?=some y→Free ops i j→PairOK ops x y:=by
  intro i j x y hx hy hf
  rcases Nat.lt_trichotomy i j with h1|h1|h1
  ·exact (pair i j x y h1 hx hy hf.2.1).1.1
  ·exact absurd h1 hf.1
  ·exact (pair j i y x h1 hy hx hf.2.2).1.2
 have hop:∀ {j:Nat} {o:Oper},ops[j]?=some o→∃ x,l[j]?=some x∧x.o=o∧x∈l:=by
  intro j o ho
  obtain ⟨x,h1,h2,h3⟩:=hget j (Array.getElem?_eq_some_iff.1 ho).1
  rw [h2] at ho;injection ho with ho
  exact ⟨x,h1,ho,h3⟩
 refine ⟨back,?_,?_,?_,?_,?_,?_,?_,?_,?_⟩
 ·intro j o ho
  obtain ⟨x,h1,rfl,h3⟩:=hop ho
  obtain ⟨h4,h5⟩:=chain_next hc h1
  have hj:j < ops.size:=(Array.getElem?_eq_some_iff.1 ho).1
  have hpa:(planOf l a' h').a j=x.a:=by simp only [planOf,h1]
  have hph:(planOf l a' h').h j=x.h:=by simp only [planOf,h1]
  have hpv:(planOf l a' h').v j=x.v:=by simp only [planOf,h1]
  have hpd:(planOf l a' h').hid j=x.hid:=by simp only [planOf,h1]
  have hpe:(planOf l a' h').eff j=x.eff:=by simp only [planOf,h1]
  rw [h5,hpa,hph,hpv,hpd]
  rcases (ok x h3).step with hs|hs|⟨s1,s2,s3,s4,b,c,s5,s6,s7⟩
  ·exact .inl hs
  ·exact .inr (.inl hs)
  ·refine .inr (.inr ⟨s1,s2,s3,fun id=>by rw [hpe];exact s4 id,b,c,fun i hij hf=>?_,fun i hi hij hf he=>?_,s6,s7⟩)
   ·obtain ⟨y,g1,g2,g3⟩:=hget i (by omega)
    have:(planOf l a' h').eff i=y.eff:=by simp only [planOf,g1]
    rw [this]
    exact (pair i j y x hij g1 h1 hf.2.1).2.snd b c s5
   ·obtain ⟨y,g1,g2,g3⟩:=hget i hi
    have:(planOf l a' h').eff i=y.eff:=by simp only [planOf,g1]
    rw [this] at he
    rw [(chain_next hc g1).2]
    exact (pair j i x y hij h1 g1 hf.2.2).2.fst b c s5 he
 ·intro j o ho
  obtain ⟨x,h1,rfl,h3⟩:=hop ho
  rw [(chain_next hc h1).1]
  simp only [planOf,h1]
 ·intro j hj
  obtain ⟨x,h1,h2,h3⟩:=hget j hj
  rw [(chain_next hc h1).2]
  simp only [planOf,h1]
  exact (ok x h3).mono
 ·intro j hj id
  obtain ⟨x,h1,h2,h3⟩:=hget j hj
  rw [(chain_next hc h1).2]
  simp only [planOf,h1]
  exact (ok x h3).fresh id
 ·intro j hj id
  obtain ⟨x,h1,h2,h3⟩:=hget j hj
  rw [(chain_next hc h1).2]
  simp only [planOf,h1]
  exact (ok x h3).effs id
 ·intro j hj id
  obtain ⟨x,h1,h2,h3⟩:=hget j hj
  simp only [planOf,h1]
  exact (ok x h3).ehid id
 ·intro i j hi hj hf id
  obtain ⟨x,h1,h2,h3⟩:=hget i hi
  obtain ⟨y,g1,g2,g3⟩:=hget j hj
  simp only [planOf,h1,g1]
  exact (hp i j x y h1 g1 hf).cross id
 ·intro i j oj t hoj hi hf hd
  obtain ⟨x,h1,h2,h3⟩:=hget i hi
  obtain ⟨y,g1,rfl,g3⟩:=hop hoj
  exact (hp i j x y h1 g1 hf).slots t (by simpa [dstOf,h2] using hd)
 ·intro j k hj hk hf
  obtain ⟨x,h1,h2,h3⟩:=hget k hk
  obtain ⟨y,g1,g2,g3⟩:=hget j hj
  rw [(chain_next hc h1).2,(chain_next hc g1).2]
  simp only [planOf,h1,g1]
  have:=hp k j x y h1 g1 hf.symm
  exact ⟨this.val,this.cells⟩
theorem region_of {l:List Inf} {a a':Act} {h h':Hp} (hm:P.follows .mixedOrders=true) (hc:chainI l a h a' h') (hl:l.map (·.o)=ops.toList) (back:∀ j i,Dep ops j i→i < j) (ok:∀ x∈l,x.OK P ops)
 (pair:∀ i j x y,i < j→l[i]?=some x→l[j]?=some y→¬ Anc ops j i→(PairOK ops x y∧PairOK ops y x)∧StaOK x y) {id:Nat}:TC P (.region id ops true) a h .normal a' h':=by
 have hk:=(plan_ok hc hl back ok pair).region hm (id:=id)
 obtain ⟨h1,h2⟩:=chain_first hc
 rw [h1,h2] at hk
 have hlen:l.length=ops.size:=by rw [← Array.length_toList,← hl,List.length_map]
 have h3:(planOf l a' h').a ops.size=a':=by simp [planOf,← hlen]
 have h4:(planOf l a' h').h ops.size=h':=by simp [planOf,← hlen]
 rw [h3,h4] at hk
 exact hk
end Go.AH
namespace Go.AH
section
section
variable {α:Type}
end
theorem blt_iff {a b:Nat}:Nat.blt a b=true↔a < b:=by rw [Nat.blt_eq]
end
section
variable {P:Program} {o:Oper} {ev:Operand→Value}
def freeS:Value→Bool
 | .bool _|.int _ _|.float _ _|.complex _ _ _|.string _|.nilFunc|.nilIface=>true
 | .pointer none|.map none|.slice none _ _=>true
 | .func _ ⟨[]⟩ ⟨[]⟩=>true
 | _=>false
def freeB:Value→Bool
 | .agg cs=>cs.toList.all freeS
 | .tuple cs=>cs.toList.all freeS
 | v=>freeS v
theorem freeS_bnd {v:Value} (h:freeS v=true):bnd 0 v:=by
 unfold freeS at h
 split at h<;>first|(simp;done)|cases h
theorem freeB_bnd {v:Value} (h:freeB v=true):bnd 0 v:=by
 unfold freeB at h
 split at h
 ·rw [bnd_agg];intro u hu;exact freeS_bnd (List.all_eq_true.1 h u (by simpa using hu))
 ·rw [bnd_tuple];intro u hu;exact freeS_bnd (List.all_eq_true.1 h u (by simpa using hu))
 ·exact freeS_bnd h
theorem ble_iff {a b:Nat}:Nat.ble a b=true↔a≤b:=by rw [Nat.ble_eq]
end
section
variable {P:Program} {o:Oper} {ev:Operand→Value}
def plain2:Value→Value→Bool
 | .int _ _,.int _ _|.string _,.string _|.bool _,.bool _=>true
 | _,_=>false
theorem add_eq (a:Addr) (n:Nat):a.add n=bif Nat.beq n 0 then a else { block:=a.block,off:=Nat.add a.off n,spot:=none }:=by
 unfold Addr.add
 cases n with
 | zero=>rfl
 | succ n=>rfl
end
section
variable {P:Program} {o:Oper} {ev:Operand→Value}
end
section
variable {P:Program} {o:Oper} {ev:Operand→Value}
end
section
variable {P:Program} {o:Oper} {ev:Operand→Value}
end
section
variable {P:Program} {o:Oper} {ev:Operand→Value}
noncomputable def okOpB (G:Nat):Operand→Bool
 | .const v=>freeB v
 | .global g=>Nat.blt g G
 | _=>true
theorem okOpB_ok {G:Nat} {x:Operand} (h:okOpB G x=true):okOp G x:=by
 cases x with
 | const v=>exact freeB_bnd h
 | global g=>exact blt_iff.1 h
 | tmp t=>trivial
 | func f=>trivial
noncomputable def okOpsB (G:Nat) (ops:Array Oper):Bool:=ops.toList.all fun o=>o.op.operands.toList.all (okOpB G)
theorem okOpsB_ok {G:Nat} {ops:Array Oper} (h:okOpsB G ops=true) {i:Nat} {o:Oper} (ho:ops[i]?=some o):∀ x∈o.op.operands,okOp G x:=by
 intro x hx
 have h1:=List.all_eq_true.1 h o (by simpa using Array.mem_of_getElem? ho)
 exact okOpB_ok (List.all_eq_true.1 h1 x (by simpa using hx))
end
section
variable {P:Program}
end
section
variable {P:Program}
theorem ren_getD (ρ:Env) (a:Act) (t:Nat):(renA ρ a).tmps.getD t undef=ren ρ (a.tmps.getD t undef):=by
 simp only [renA,Array.getD_eq_getD_getElem?,Array.getElem?_map];cases a.tmps[t]?<;>simp
def resF (tmps:Array Value):ResultVar→Sem Value
 | .tmp t=>Pure.pure (tmps.getD t undef)
 | .cell a t=>do loadVar t (← asAddr (tmps.getD a undef))
theorem results_eq (fn:Func) (tmps:Array Value):results fn tmps=(do let vs ← fn.results.mapM (resF tmps);Pure.pure (if h:vs.size=1 then vs[0] else .tuple vs)):=by
 unfold results
 congr 1
theorem TF.trunc {f:FuncId} {args:Array Value} {h h':Hp} {v:Value} (ht:TF P f args h v h') (hv:bnd h.n v) (hs:∀ i,i < h.n→h'.m i=h.m i):TF P f args h v h:=by
 intro ha ρ W hok
 refine (ht ha ρ W hok).mono ?_
 rintro e W' ⟨ρ',rfl,_,hok',hE⟩
 have key:∀ i b,h.m i=some b→h'.m i=some b:=fun i b hb=>by rw [hs i (hok.lt _ _ hb)];exact hb
 refine ⟨ρ',rfl,hv,⟨fun i b hb=>hok'.fits _ _ (key i b hb),fun i b hb=>hok.lt _ _ hb,fun i j b c hi0 hb hc hl=>hok'.inj _ _ _ _ hi0 (key i b hb) (key j c hc) hl,fun i b hb=>hok.bd _ _ hb,hok'.glob,hok.gle,hok.gow⟩,
  ⟨hE.agree,Nat.le_refl _,hE.kept,hE.size,fun i b hi0 hb hl=>hE.own i b hi0 (key i b hb) hl,hE.tape,hE.os,hE.output,fun i b hin hb=>hE.surv i b hin (key i b hb)⟩⟩
end
section
variable {P:Program} {ops:Array Oper}
section
variable {α:Type}
end
theorem Hp.eq {a b:Hp} (h1:∀ i,a.m i=b.m i) (h2:a.n=b.n):a=b:=by
 cases a;cases b;simp only at h1 h2;subst h2;congr;funext i;exact h1 i
end
section
variable {P:Program} {ops:Array Oper}
end
section
variable {P:Program} {ops:Array Oper}
theorem bif_true {c x:Bool} (h:(bif c then x else false)=true):c=true∧x=true:=by cases c<;>simp_all
end
section
variable {P:Program} {ops:Array Oper}
noncomputable def bitB (m i:Nat):Bool:=Nat.beq (Nat.mod (Nat.shiftRight m i) 2) 1
def Sat (P:Program) (h:Hp):Prop:=∃ ρ W,HOK P.globals.size h ρ W
theorem TX.sat {o:Oper} {a:Act} {h h':Hp} {v:Value} (ht:TX P o a.eval h v h') (hk:∀ x∈o.op.operands,okOp P.globals.size x) (s:Sat P h) (hb:bndA h.n a):Sat P h'∧bnd h'.n v:=by
 obtain ⟨ρ,W,ho⟩:=s
 have:=wp_outcome (ht (fun x hx=>eval_bnd ho.gn hb x (hk x hx)) ρ W ho (renA ρ a) (fun _ W'=>∃ ρ',bnd h'.n v∧HOK P.globals.size h' ρ' W') (fun _ _ _=>False)
  (fun x hx=>eval_ren ho.glob _ x (hk x hx)) fun ρ' W' hv ho' _=>⟨ρ',hv,ho'⟩)
 obtain ⟨_,W',ρ',hv,ho'⟩:=this
 exact ⟨⟨ρ',W',ho'⟩,hv⟩
theorem bif_some' {α:Type} {c:Bool} {x:Option α} {r:α} (h:(bif c then x else none)=some r):c=true∧x=some r:=by cases c<;>simp_all
theorem Sat.bd {h:Hp} (s:Sat P h):∀ id b,h.m id=some b→∀ v∈b.cells,bnd h.n v:=by
 obtain ⟨ρ,W,ho⟩:=s
 exact ho.bd
end
section
variable {P:Program} {ops:Array Oper}
end
section
variable {P:Program} {ops:Array Oper}
noncomputable def maskOf (ms:List Nat):List Edge→Option Nat
 | []=>some 0
 | e::es=>match maskOf ms es with
  | some r=>bif Region.binds .any e then (match ms[e.on]? with
   | some m=>some (Nat.lor r (Nat.lor m (Nat.pow 2 e.on)))
   | none=>none) else some r
  | none=>none
noncomputable def masksGo:List Oper→List Nat→Option (List Nat)
 | [],ms=>some ms
 | o::l,ms=>match maskOf ms o.after.toList with
  | some m=>masksGo l (ms++[m])
  | none=>none
theorem bitB_eq (m i:Nat):bitB m i=m.testBit i:=by
 unfold bitB
 rw [Nat.testBit_eq_decide_div_mod_eq]
 have:Nat.mod (Nat.shiftRight m i) 2=m / 2 ^ i % 2:=by
  show (m >>> i) % 2=_
  rw [Nat.shiftRight_eq_div_pow]
 rw [this]
 by_cases h:m / 2 ^ i % 2=1
 ·simp [h]
 ·simp only [h,decide_false]
  cases hb:Nat.beq (m / 2 ^ i % 2) 1 with
  | false=>rfl
  | true=>exact absurd (Nat.eq_of_beq_eq_true hb) h
theorem maskOf_ok {ms:List Nat}:∀ {es:List Edge} {m:Nat},maskOf ms es=some m→(∀ e∈es,Region.binds .any e=true→e.on < ms.length)∧∀ i,bitB m i=true→∃ e∈es,Region.binds .any e=true∧(e.on=i∨∃ q,ms[e.on]?=some q∧bitB q i=true):=by
 intro es
 induction es with
 | nil =>
  intro m h
  simp only [maskOf,Option.some.injEq] at h
  subst h
  refine ⟨fun e he=>(by cases he),fun i hi=>?_⟩
  rw [bitB_eq] at hi;simp at hi
 | cons e es ih =>
  intro m h
  simp only [maskOf] at h
  split at h
  ·rename_i r hr
   obtain ⟨h1,h2⟩:=ih hr
   cases hb:Region.binds .any e with
   | false =>
    rw [hb] at h
    simp only [cond_false,Option.some.injEq] at h
    subst h
    refine ⟨fun q hq hqb=>?_,fun i hi=>?_⟩
    ·rcases List.mem_cons.1 hq with rfl|hq
     ·rw [hb] at hqb;cases hqb
     ·exact h1 q hq hqb
    ·obtain ⟨q,hq,h3⟩:=h2 i hi
     exact ⟨q,by simp [hq],h3⟩
   | true =>
    rw [hb] at h
    simp only [cond_true] at h
    split at h
    ·rename_i me hme
     simp only [Option.some.injEq] at h
     subst h
     refine ⟨fun q hq hqb=>?_,fun i hi=>?_⟩
     ·rcases List.mem_cons.1 hq with rfl|hq
      ·exact (List.getElem?_eq_some_iff.1 hme).1
      ·exact h1 q hq hqb
     ·rw [bitB_eq] at hi
      have hi':(r ||| (me ||| 2 ^ e.on)).testBit i=true:=hi
      rw [Nat.testBit_or,Nat.testBit_or,Nat.testBit_two_pow] at hi'
      simp only [Bool.or_eq_true,decide_eq_true_eq] at hi'
      rcases hi' with h3|h3|h3
      ·obtain ⟨q,hq,h4⟩:=h2 i (by rw [bitB_eq];exact h3)
       exact ⟨q,by simp [hq],h4⟩
      ·exact ⟨e,by simp,hb,.inr ⟨me,hme,by rw [bitB_eq];exact h3⟩⟩
      ·exact ⟨e,by simp,hb,.inl h3⟩
    ·cases h
  ·cases h
theorem masksGo_ok:∀ {l:List Oper} {ms ms':List Nat},(∀ i o,l[i]?=some o→ops[ms.length+i]?=some o)→ms.length+l.length=ops.size→(∀ j q,ms[j]?=some q→(∀ i,Dep ops j i→i < j)∧∀ i,bitB q i=true→Anc ops j i)→masksGo l ms=some ms' →
 ms'.length=ops.size∧∀ j q,ms'[j]?=some q→(∀ i,Dep ops j i→i < j)∧∀ i,bitB q i=true→Anc ops j i:=by
 intro l
 induction l with
 | nil =>
  intro ms ms' _ hlen h he
  simp only [masksGo,Option.some.injEq] at he
  subst he
  exact ⟨by simpa using hlen,h⟩
 | cons o l ih =>
  intro ms ms' hl hlen h he
  simp only [masksGo] at he
  split at he
  ·rename_i m hm
   obtain ⟨h1,h2⟩:=maskOf_ok hm
   have ho:ops[ms.length]?=some o:=by simpa using hl 0 o rfl
   refine ih (fun i q hq=>?_) (by simp at hlen ⊢;omega) (fun j q hq=>?_) he
   ·have:=hl (i+1) q (by simpa using hq)
    simp only [List.length_append,List.length_cons,List.length_nil]
    rw [show ms.length+(0+1)+i=ms.length+(i+1) by omega];exact this
   ·rw [List.getElem?_append] at hq
    split at hq
    ·exact h j q hq
    ·rename_i hlt
     have hj:j=ms.length:=by
      obtain ⟨h3,_⟩:=List.getElem?_eq_some_iff.1 hq
      simp at h3;omega
     subst hj
     simp at hq
     subst hq
     refine ⟨?_,fun i hi=>?_⟩
     ·rintro i ⟨o',ho',e,he,hb,rfl⟩
      rw [ho] at ho';injection ho' with ho';subst ho'
      exact h1 e (by simpa using he) hb
     ·obtain ⟨e,he,hb,h3⟩:=h2 i hi
      have hd:Dep ops ms.length e.on:=⟨o,ho,e,by simpa using he,hb,rfl⟩
      rcases h3 with h3|⟨q,hq,hqi⟩
      ·exact h3 ▸ Anc.one hd
      ·exact Anc.more hd ((h e.on q hq).2 i hqi)
  ·cases he
noncomputable def slotB (ops:List Oper) (x y:Oper):Bool:=match x.dst with
 | none=>true
 | some t=>(y.op.operands.toList.all fun z=>match z with|.tmp u=>!(Nat.beq u t)|_=>true) && (match y.dst with|some u=>!(Nat.beq u t)|none=>true) &&
  (match y.guard with|some (g,_)=>(match ops[g]? with|some q=>(match q.dst with|some u=>!(Nat.beq u t)|none=>true)|none=>true)|none=>true)
theorem nbeq {a b:Nat} (h:(!(Nat.beq a b))=true):a≠b:=by
 intro e;subst e;simp at h
theorem slotB_ok {x y:Oper} (h:slotB ops.toList x y=true):∀ t,x.dst=some t→(∀ z∈y.op.operands,z≠.tmp t)∧y.dst≠some t∧∀ g w,y.guard=some (g,w)→dstOf ops g≠some t:=by
 intro t ht
 unfold slotB at h
 rw [ht] at h
 simp only [Bool.and_eq_true] at h
 obtain ⟨⟨h1,h2⟩,h3⟩:=h
 refine ⟨fun z hz e=>?_,fun e=>?_,fun g w hg e=>?_⟩
 ·have:=List.all_eq_true.1 h1 z (by simpa using hz)
  subst e
  exact nbeq this rfl
 ·rw [e] at h2;exact nbeq h2 rfl
 ·rw [hg] at h3
  simp only at h3
  unfold dstOf at e
  rw [← Array.getElem?_toList] at e
  cases hq:ops.toList[g]? with
  | none=>rw [hq] at e;cases e
  | some q =>
   rw [hq] at e h3
   simp only [Option.bind_some] at e
   simp only at h3
   rw [e] at h3
   exact nbeq h3 rfl
noncomputable def slotsOne (ops:List Oper) (m:Nat) (y:Oper):List Oper→Nat→Bool
 | [],_=>true
 | x::l,i=>bif bitB m i then slotsOne ops m y l (i+1) else bif slotB ops x y then (bif slotB ops y x then slotsOne ops m y l (i+1) else false) else false
noncomputable def slotsAll (ops:List Oper):List (Oper × Nat)→Nat→Bool
 | [],_=>true
 | (y,m)::l,j=>bif slotsOne ops m y (ops.take j) 0 then slotsAll ops l (j+1) else false
theorem slotsOne_ok {opl:List Oper} {m:Nat} {y:Oper}:∀ {l:List Oper} {k:Nat},slotsOne opl m y l k=true→∀ i x,l[i]?=some x→bitB m (k+i)=false→slotB opl x y=true∧slotB opl y x=true:=by
 intro l
 induction l with
 | nil=>intro k _ i x hx;simp at hx
 | cons a l ih =>
  intro k h i x hx hb
  simp only [slotsOne] at h
  cases i with
  | zero =>
   simp only [List.getElem?_cons_zero,Option.some.injEq] at hx
   subst hx
   rw [Nat.add_zero] at hb
   rw [hb] at h
   obtain ⟨h1,h2⟩:=bif_true h
   exact ⟨h1,(bif_true h2).1⟩
  | succ i =>
   simp only [List.getElem?_cons_succ] at hx
   refine ih (k:=k+1) ?_ i x hx (by rw [show k+1+i=k+(i+1) by omega];exact hb)
   cases hk:bitB m k with
   | true=>rw [hk] at h;exact h
   | false=>rw [hk] at h;exact (bif_true (bif_true h).2).2
theorem slotsAll_ok {opl:List Oper}:∀ {l:List (Oper × Nat)} {k:Nat},slotsAll opl l k=true→∀ j y m,l[j]?=some (y,m)→slotsOne opl m y (opl.take (k+j)) 0=true:=by
 intro l
 induction l with
 | nil=>intro k _ j y m h;simp at h
 | cons a l ih =>
  obtain ⟨a,b⟩:=a
  intro k h j y m hj
  simp only [slotsAll] at h
  obtain ⟨h1,h2⟩:=bif_true h
  cases j with
  | zero =>
   simp only [List.getElem?_cons_zero,Option.some.injEq,Prod.mk.injEq] at hj
   obtain ⟨rfl,rfl⟩:=hj
   exact h1
  | succ j =>
   simp only [List.getElem?_cons_succ] at hj
   have:=ih h2 j y m hj
   rw [show k+(j+1)=k+1+j by omega];exact this
noncomputable def planD (P:Program) (ops:Array Oper):Option (List (Oper × Nat)):=match masksGo ops.toList [] with
 | some ms=>bif okOpsB P.globals.size ops then (bif slotsAll ops.toList (ops.toList.zip ms) 0 then some (ops.toList.zip ms) else none) else none
 | none=>none
end
structure PairDyn (x y:Inf):Prop where
 cross:∀ id,x.eff id=true→y.hid id=true
 val:ment (fun id=>¬ inR y id) x.v
 cells:∀ id b,x.eff id=true→x.h'.m id=some b→∀ v∈b.cells,ment (fun id=>¬ inR y id) v
end Go.AH
namespace Go.AH
def sub (σ:Nat→Nat):Value→Value
 | .pointer (some a)=>.pointer (some { a with block:=σ a.block })
 | .slice (some a) l c=>.slice (some { a with block:=σ a.block }) l c
 | .map (some r)=>.map (some (σ r))
 | .chan (some r)=>.chan (some (σ r))
 | .func fn f c=>.func fn (f.attach.map fun ⟨v,_⟩=>sub σ v) (c.attach.map fun ⟨v,_⟩=>sub σ v)
 | .iface t v=>.iface t (sub σ v)
 | .agg cs=>.agg (cs.attach.map fun ⟨v,_⟩=>sub σ v)
 | .tuple cs=>.tuple (cs.attach.map fun ⟨v,_⟩=>sub σ v)
 | v=>v
section
variable (σ:Nat→Nat)
@[simp] theorem sub_agg (cs:Array Value):sub σ (.agg cs)=.agg (cs.map (sub σ)):=by rw [sub];simp
@[simp] theorem sub_tuple (cs:Array Value):sub σ (.tuple cs)=.tuple (cs.map (sub σ)):=by rw [sub];simp
@[simp] theorem sub_func (fn:Fn) (f c:Array Value):sub σ (.func fn f c)=.func fn (f.map (sub σ)) (c.map (sub σ)):=by rw [sub];simp
@[simp] theorem sub_iface (t:TypeId) (v:Value):sub σ (.iface t v)=.iface t (sub σ v):=by rw [sub]
@[simp] theorem sub_bool (b:Bool):sub σ (.bool b)=.bool b:=by rw [sub]<;>simp
@[simp] theorem sub_int (k:IntKind) (n:Int):sub σ (.int k n)=.int k n:=by rw [sub]<;>simp
@[simp] theorem sub_string (s:ByteArray):sub σ (.string s)=.string s:=by rw [sub]<;>simp
@[simp] theorem sub_nilFunc:sub σ .nilFunc=.nilFunc:=by rw [sub]<;>simp
@[simp] theorem sub_nilIface:sub σ .nilIface=.nilIface:=by rw [sub]<;>simp
@[simp] theorem sub_ptr_none:sub σ (.pointer none)=.pointer none:=by rw [sub]<;>simp
@[simp] theorem sub_ptr (a:Addr):sub σ (.pointer (some a))=.pointer (some { a with block:=σ a.block }):=by rw [sub]
@[simp] theorem sub_slice_none (l c:Nat):sub σ (.slice none l c)=.slice none l c:=by rw [sub]<;>simp
@[simp] theorem sub_slice (a:Addr) (l c:Nat):sub σ (.slice (some a) l c)=.slice (some { a with block:=σ a.block }) l c:=by rw [sub]
@[simp] theorem sub_map_none:sub σ (.map none)=.map none:=by rw [sub]<;>simp
@[simp] theorem sub_map (r:Nat):sub σ (.map (some r))=.map (some (σ r)):=by rw [sub]
end
def subE (σ:Nat→Nat) (ρ:Env):Env:=⟨fun i=>ρ.loc (σ i),fun i=>ρ.cap (σ i),fun i=>ρ.sh (σ i)⟩
theorem ren_sub (σ:Nat→Nat) (ρ:Env):∀ v,ren ρ (sub σ v)=ren (subE σ ρ) v:=by
 intro v
 induction v using sub.induct with
 | case1 a=>simp [renAddr,subE]
 | case2 a l c=>simp [renAddr,renCap,subE]
 | case3 r=>simp [subE]
 | case4 r=>rw [sub,ren,ren];rfl
 | case5 fn f c ih1 ih2 =>
  simp only [sub_func,ren_func,Array.map_map]
  congr 1
  ·exact Array.map_congr_left fun v hv=>ih1 v hv
  ·exact Array.map_congr_left fun v hv=>ih2 v hv
 | case6 t v ih=>simp [ih]
 | case7 cs ih=>simp only [sub_agg,ren_agg,Array.map_map];congr 1;exact Array.map_congr_left fun v hv=>ih v hv
 | case8 cs ih=>simp only [sub_tuple,ren_tuple,Array.map_map];congr 1;exact Array.map_congr_left fun v hv=>ih v hv
 | case9 v=>rw [sub,ren,ren]<;>simp_all
theorem sub_same {σ:Nat→Nat} {n:Nat} (h:∀ i,i < n→σ i=i):∀ v,bnd n v→sub σ v=v:=by
 intro v
 induction v using sub.induct with
 | case1 a=>intro hb;simp only [bnd_ptr] at hb;simp [h _ hb]
 | case2 a l c=>intro hb;simp only [bnd_slice] at hb;simp [h _ hb]
 | case3 r=>intro hb;simp only [bnd_map] at hb;simp [h _ hb]
 | case4 r=>intro hb;rw [bnd] at hb;rw [sub,h _ hb]
 | case5 fn f c ih1 ih2 =>
  intro hb;simp only [bnd_func] at hb;simp only [sub_func]
  congr 1
  ·conv=>rhs;rw [← Array.map_id f]
   exact Array.map_congr_left fun v hv=>ih1 v hv (hb.1 v hv)
  ·conv=>rhs;rw [← Array.map_id c]
   exact Array.map_congr_left fun v hv=>ih2 v hv (hb.2 v hv)
 | case6 t v ih=>intro hb;simp only [bnd_iface] at hb;simp [ih hb]
 | case7 cs ih =>
  intro hb;simp only [bnd_agg] at hb;simp only [sub_agg];congr 1
  conv=>rhs;rw [← Array.map_id cs]
  exact Array.map_congr_left fun v hv=>ih v hv (hb v hv)
 | case8 cs ih =>
  intro hb;simp only [bnd_tuple] at hb;simp only [sub_tuple];congr 1
  conv=>rhs;rw [← Array.map_id cs]
  exact Array.map_congr_left fun v hv=>ih v hv (hb v hv)
 | case9 v=>intro _;rw [sub]<;>simp_all
def subB (σ:Nat→Nat) (b:Blk):Blk:=⟨b.cells.map (sub σ),b.elem⟩
def tau (σ:Nat→Nat) (n N:Nat) (i:Nat):Nat:=if i < n then σ i else N+(i - n)
end Go.AH
namespace Go.AH
open Go
variable {P:Program} {o:Oper} {ev:Operand→Value} {h:Hp}
end Go.AH
