/-
  What the functions that the law reaches compute,told by plain data;it holds of programs that pass the check of right form and are light.
-/
import Derived.Test.YtjhloakacicdiaaDoorR10
import Derived.Test.YtjhloakacicdiaaDoorR13
import Derived.Test.YtjhloakacicdiaaDoorS2
set_option linter.unusedVariables false
set_option linter.unusedSimpArgs false
namespace Go.Proofs.YtjhloakacicdiaaDoor
open Go.AH
theorem fit_arg {regs:List Int} {a:ArgS} (hr:∀ r∈regs,fitI r) (ha:a.ok):fitI (argS regs a):=by
 unfold argS
 split
 ·exact ha.2
 ·rw [List.getD_eq_getElem?_getD]
  cases h:regs[a.reg.toNat]? with
  | none=>exact ⟨by show (_:Int)≤0;omega,by show (0:Int)≤_;omega⟩
  | some v=>exact hr v (List.mem_of_getElem? h)
theorem fit_load {d:List Int} {o:Nat}:∀ n,fitI (loadV d o n):=by
 intro n
 cases n with
 | zero=>exact ⟨by show (_:Int)≤0;omega,by show (0:Int)≤_;omega⟩
 | succ n=>exact fit_wrap _
theorem fit_loadS (s:RunS) (at_:Int) (n:Nat) (sg:Bool):fitI (loadS s at_ n sg).1:=by
 unfold loadS
 split
 ·exact fit_widen (fit_load _)
 ·split
  ·exact fit_widen (fit_load _)
  ·exact fit_widen ⟨by omega,by omega⟩
theorem setReg_len (regs:List Int) (d v:Int):(setReg regs d v).length=regs.length:=by unfold setReg;split<;>simp
theorem setReg_fit {regs:List Int} {d v:Int} (hr:∀ r∈regs,fitI r) (hv:fitI v):∀ r∈setReg regs d v,fitI r:=by
 unfold setReg
 split
 ·intro r h
  rcases List.mem_or_eq_of_mem_set h with h|h
  ·exact hr r h
  ·rw [h];exact hv
 ·exact hr
def placeOf (p:ProgS) (i:Int):Int:=match p.globals[i.toNat]? with|some g=>g.place|none=>0
def atOf (at_:List Int) (i:Int):Int:=at_.reverse.getD i.toNat 0
def insS (p:ProgS) (cl:RunS→List Int→InsS→Int × RunS) (at_:List Int) (s:RunS) (regs:List Int) (x:InsS):RunS × List Int :=
 if (stepS s).fin=0 then
  if x.op=1∨x.op=2 then (stepS s,setReg regs x.dst (argS regs x.a))
  else if twoS x.op=true then (if (reckonS x.op (argS regs x.a) (argS regs x.b)).2=true then stepS s else stopS (stepS s) 41,setReg regs x.dst (reckonS x.op (argS regs x.a) (argS regs x.b)).1)
  else if x.op=22 then (stepS s,setReg regs x.dst (widenS (argS regs x.a) x.size x.signed))
  else if x.op=23 then (stepS s,setReg regs x.dst (i64 (i64 (65536+placeOf p x.ref)+x.off)))
  else if x.op=24 then (stepS s,setReg regs x.dst (i64 (atOf at_ x.ref+x.off)))
  else if x.op=25 then (stepS s,setReg regs x.dst (4194304+16 * x.ref))
  else if x.op=26 then ((loadS (stepS s) (i64 (argS regs x.a+x.off)) x.size.toNat x.signed).2,setReg regs x.dst (loadS (stepS s) (i64 (argS regs x.a+x.off)) x.size.toNat x.signed).1)
  else if x.op=27 then (storeS (stepS s) (i64 (argS regs x.a+x.off)) x.size.toNat (argS regs x.b),regs)
  else if x.op=30 then (if (stepS s).out.length=10000 then stopS (stepS s) 45 else { stepS s with out:=argS regs x.a::(stepS s).out },regs)
  else ((cl (stepS s) regs x).2,setReg regs x.dst (cl (stepS s) regs x).1)
 else (stepS s,regs)
structure RunS.inv (s:RunS):Prop where
 data:s.data.length≤1000000
 stack:s.stack.length≤1000000
 steps:0≤s.steps∧s.steps≤s.fuel
 fuel:s.fuel≤1000000
 leaks:(s.leaks.length:Int)≤s.steps
 out:(s.out.length:Int)≤s.steps
 deep:0≤s.deep∧s.deep≤101
theorem stepS_inv {s:RunS} (h:s.inv):(stepS s).inv:=by
 obtain ⟨h1,h2,h3,h4,h5,h6,h7⟩:=h
 unfold stepS
 split
 ·split
  ·exact ⟨h1,h2,h3,h4,h5,h6,h7⟩
  ·exact ⟨h1,h2,⟨by show 0≤s.steps+1;omega,by show s.steps+1≤s.fuel;omega⟩,h4,by show (s.leaks.length:Int)≤s.steps+1;omega,by show (s.out.length:Int)≤s.steps+1;omega,h7⟩
 ·exact ⟨h1,h2,h3,h4,h5,h6,h7⟩
theorem stopS_inv {s:RunS} (h:s.inv) (e:Int):(stopS s e).inv:=by
 obtain ⟨h1,h2,h3,h4,h5,h6,h7⟩:=h
 unfold stopS
 split<;>exact ⟨h1,h2,h3,h4,h5,h6,h7⟩
theorem stepS_room {s:RunS} (h:s.inv) (hf:(stepS s).fin=0):((stepS s).leaks.length:Int)+1≤(stepS s).steps∧((stepS s).out.length:Int)+1≤(stepS s).steps:=by
 have h5:=h.leaks
 have h6:=h.out
 unfold stepS at hf ⊢
 split at hf
 ·split at hf
  ·exact absurd (show (42:Int)=0 from hf) (by decide)
  ·rw [if_pos ‹_›,if_neg ‹_›]
   exact ⟨by show (s.leaks.length:Int)+1≤s.steps+1;omega,by show (s.out.length:Int)+1≤s.steps+1;omega⟩
 ·rename_i q;exact absurd hf q
theorem leakS_inv {s:RunS} (h:s.inv) (hr:(s.leaks.length:Int)+1≤s.steps) (q:LeakS):(leakS s q).inv:=by
 obtain ⟨h1,h2,h3,h4,h5,h6,h7⟩:=h
 exact ⟨h1,h2,h3,h4,by show ((s.leaks.length+1:Nat):Int)≤s.steps;omega,h6,h7⟩
theorem loadS_inv {s:RunS} (h:s.inv) (hr:(s.leaks.length:Int)+1≤s.steps) (at_:Int) (n:Nat) (sg:Bool):(loadS s at_ n sg).2.inv:=by
 unfold loadS
 split
 ·exact leakS_inv h hr _
 ·split
  ·exact leakS_inv h hr _
  ·exact stopS_inv (leakS_inv h hr _) _
theorem storeS_inv {s:RunS} (h:s.inv) (hr:(s.leaks.length:Int)+1≤s.steps) (at_:Int) (n:Nat) (v:Int):(storeS s at_ n v).inv:=by
 unfold storeS
 have hl:=leakS_inv h hr ⟨3,at_,0⟩
 obtain ⟨h1,h2,h3,h4,h5,h6,h7⟩:=hl
 split
 ·exact ⟨by show (storeV _ _ _ _).length≤_;rw [storeV_len];exact h1,h2,h3,h4,h5,h6,h7⟩
 ·split
  ·exact ⟨h1,by show (storeV _ _ _ _).length≤_;rw [storeV_len];exact h2,h3,h4,h5,h6,h7⟩
  ·exact stopS_inv ⟨h1,h2,h3,h4,h5,h6,h7⟩ _
theorem insS_elim {Q:RunS × List Int→Prop} {p:ProgS} {cl:RunS→List Int→InsS→Int × RunS} {at_:List Int} {s:RunS} {regs:List Int} {x:InsS} (h0:¬ (stepS s).fin=0→Q (stepS s,regs))
 (h1:(stepS s).fin=0→x.op=1∨x.op=2→Q (stepS s,setReg regs x.dst (argS regs x.a)))
 (h2:(stepS s).fin=0→twoS x.op=true→Q (if (reckonS x.op (argS regs x.a) (argS regs x.b)).2=true then stepS s else stopS (stepS s) 41,setReg regs x.dst (reckonS x.op (argS regs x.a) (argS regs x.b)).1))
 (h22:(stepS s).fin=0→x.op=22→Q (stepS s,setReg regs x.dst (widenS (argS regs x.a) x.size x.signed)))
 (h23:(stepS s).fin=0→x.op=23→Q (stepS s,setReg regs x.dst (i64 (i64 (65536+placeOf p x.ref)+x.off))))
 (h24:(stepS s).fin=0→x.op=24→Q (stepS s,setReg regs x.dst (i64 (atOf at_ x.ref+x.off))))
 (h25:(stepS s).fin=0→x.op=25→Q (stepS s,setReg regs x.dst (4194304+16 * x.ref)))
 (h26:(stepS s).fin=0→x.op=26→Q ((loadS (stepS s) (i64 (argS regs x.a+x.off)) x.size.toNat x.signed).2,setReg regs x.dst (loadS (stepS s) (i64 (argS regs x.a+x.off)) x.size.toNat x.signed).1))
 (h27:(stepS s).fin=0→x.op=27→Q (storeS (stepS s) (i64 (argS regs x.a+x.off)) x.size.toNat (argS regs x.b),regs))
 (h30:(stepS s).fin=0→x.op=30→Q (if (stepS s).out.length=10000 then stopS (stepS s) 45 else { stepS s with out:=argS regs x.a::(stepS s).out },regs))
 (h28:(stepS s).fin=0→¬ (x.op=1∨x.op=2)→twoS x.op=false→¬ (22≤x.op∧x.op≤27)→¬ x.op=30→Q ((cl (stepS s) regs x).2,setReg regs x.dst (cl (stepS s) regs x).1)):Q (insS p cl at_ s regs x):=by
 unfold insS
 by_cases hf:(stepS s).fin=0
 ·rw [if_pos hf]
  by_cases o1:x.op=1∨x.op=2
  ·rw [if_pos o1];exact h1 hf o1
  rw [if_neg o1]
  by_cases o2:twoS x.op=true
  ·rw [if_pos o2];exact h2 hf o2
  rw [if_neg o2]
  by_cases o22:x.op=22
  ·rw [if_pos o22];exact h22 hf o22
  rw [if_neg o22]
  by_cases o23:x.op=23
  ·rw [if_pos o23];exact h23 hf o23
  rw [if_neg o23]
  by_cases o24:x.op=24
  ·rw [if_pos o24];exact h24 hf o24
  rw [if_neg o24]
  by_cases o25:x.op=25
  ·rw [if_pos o25];exact h25 hf o25
  rw [if_neg o25]
  by_cases o26:x.op=26
  ·rw [if_pos o26];exact h26 hf o26
  rw [if_neg o26]
  by_cases o27:x.op=27
  ·rw [if_pos o27];exact h27 hf o27
  rw [if_neg o27]
  by_cases o30:x.op=30
  ·rw [if_pos o30];exact h30 hf o30
  rw [if_neg o30]
  exact h28 hf o1 (by simpa using o2) (by omega) o30
 ·rw [if_neg hf];exact h0 hf
theorem op_call {op:Int} (hop:1≤op∧op≤30) (h1:¬ (op=1∨op=2)) (h2:twoS op=false) (h3:¬ (22≤op∧op≤27)) (h4:¬ op=30):op=28∨op=29:=by
 have:¬ (3≤op∧op≤21):=fun hh=>by unfold twoS at h2;simp [hh.1,hh.2] at h2
 omega
theorem insS_inv {p:ProgS} {cl:RunS→List Int→InsS→Int × RunS} {at_:List Int} {s:RunS} {regs:List Int} {x:InsS} (h:s.inv) (hc:(stepS s).fin=0→(x.op=28∨x.op=29)→(cl (stepS s) regs x).2.inv) (hop:1≤x.op∧x.op≤30):(insS p cl at_ s regs x).1.inv:=by
 have h1:=stepS_inv h
 refine insS_elim (Q:=fun r=>r.1.inv) (fun _=>h1) (fun _ _=>h1) (fun _ _=>?_) (fun _ _=>h1) (fun _ _=>h1) (fun _ _=>h1) (fun _ _=>h1) (fun hf _=>loadS_inv h1 (stepS_room h hf).1 _ _ _) (fun hf _=>storeS_inv h1 (stepS_room h hf).1 _ _ _) (fun hf _=>?_) (fun hf q1 q2 q3 q4=>hc hf (op_call hop q1 q2 q3 q4))
 ·dsimp only
  split
  ·exact h1
  ·exact stopS_inv h1 _
 ·dsimp only
  split
  ·exact stopS_inv h1 _
  ·have r2:=(stepS_room h hf).2
   obtain ⟨h1,h2,h3,h4,h5,h6,h7⟩:=h1
   exact ⟨h1,h2,h3,h4,h5,by show (((stepS s).out.length+1:Nat):Int)≤_;dsimp only;omega,h7⟩
theorem insS_len {p:ProgS} {cl:RunS→List Int→InsS→Int × RunS} {at_:List Int} {s:RunS} {regs:List Int} {x:InsS}:(insS p cl at_ s regs x).2.length=regs.length :=
 insS_elim (Q:=fun r=>r.2.length=regs.length) (fun _=>rfl) (fun _ _=>setReg_len _ _ _) (fun _ _=>setReg_len _ _ _) (fun _ _=>setReg_len _ _ _) (fun _ _=>setReg_len _ _ _) (fun _ _=>setReg_len _ _ _) (fun _ _=>setReg_len _ _ _) (fun _ _=>setReg_len _ _ _) (fun _ _=>rfl) (fun _ _=>rfl) (fun _ _ _ _ _=>setReg_len _ _ _)
theorem insS_fit {p:ProgS} {cl:RunS→List Int→InsS→Int × RunS} {at_:List Int} {s:RunS} {regs:List Int} {x:InsS} (hr:∀ r∈regs,fitI r) (hx:x.ok) (hop:1≤x.op∧x.op≤30) (hc:(stepS s).fin=0→(x.op=28∨x.op=29)→fitI (cl (stepS s) regs x).1) (href:x.op=25→0≤x.ref∧x.ref≤1000000):∀ r∈(insS p cl at_ s regs x).2,fitI r :=
 insS_elim (Q:=fun q=>∀ r∈q.2,fitI r) (fun _=>hr) (fun _ _=>setReg_fit hr (fit_arg hr hx.a)) (fun _ _=>setReg_fit hr (fit_reckon (fit_arg hr hx.a))) (fun _ _=>setReg_fit hr (fit_widen (fit_arg hr hx.a))) (fun _ _=>setReg_fit hr (fit_i64 _)) (fun _ _=>setReg_fit hr (fit_i64 _))
  (fun _ q=>setReg_fit hr ⟨by have:=href q;omega,by have:=href q;omega⟩) (fun _ _=>setReg_fit hr (fit_loadS _ _ _ _)) (fun _ _=>hr) (fun _ _=>hr) (fun hf q1 q2 q3 q4=>setReg_fit hr (hc hf (op_call hop q1 q2 q3 q4)))
theorem rowC_ints:∀ l:List Int,rowC intW l=l.reverse.map (.int .i64 ·):=by
 intro l
 induction l with
 | nil=>rfl
 | cons a l ih=>rw [rowC,ih];simp [intW]
theorem size_nat {z:Int} (h:sizedS z=true):∃ n:Nat,z=n∧1≤n∧n≤8:=by
 unfold sizedS at h
 simp only [Bool.or_eq_true,beq_iff_eq] at h
 rcases h with ((h|h)|h)|h
 ·exact ⟨1,by omega,by omega,by omega⟩
 ·exact ⟨2,by omega,by omega,by omega⟩
 ·exact ⟨4,by omega,by omega,by omega⟩
 ·exact ⟨8,by omega,by omega,by omega⟩
theorem inv_ok {s:RunS} (h:s.inv) (q:LeakS):(leakS s q).ok:=by
 obtain ⟨h1,h2,h3,h4,h5,h6,h7⟩:=h
 exact ⟨h1,h2,⟨h3.1,by show s.steps≤_;omega⟩,by show s.leaks.length+1≤_;omega,by show s.out.length≤_;omega⟩
set_option maxHeartbeats 4000000 in
theorem ins_te (B:Hp) (hd:∀ i b,B.m i=some b→i < B.n) (p:ProgS) (pb:Nat) (pe:TypeId) (P1:Option Addr) (d1:Nat) (P2:Option Addr) (d2:Nat) (hp:ProgAt B pb p pe P1 d1 P2 d2) (hnf:p.funcs.length≤1000000) (fb fo:Nat) (hfb:fb < B.n) (f:FuncS) (hfr:f.regs≤1000000000) (s:RunS) (hinv:s.inv) (regs at_:List Int)
 (hrl:(regs.length:Int)=f.regs) (hrf:∀ r∈regs,fitI r) (hal:at_.length=f.slots.length) (x:InsS) (hxo:x.ok) (hx:rightS p f x=true) (xb xo:Nat) (xcs:List Value) (xe:TypeId) (A:Option Addr) (c:Nat) (hX:B.m xb=some ⟨⟨xcs⟩,xe⟩) (hXl:xo+12≤xcs.length) (hXv:takeV xo 12 xcs=insC x A c)
 (cl:RunS→List Int→InsS→Int × RunS) (hcl:(stepS s).fin=0→(x.op=28∨x.op=29)→TE Tryd.prog 109 B 8 [0,3,4,5,6] (fun π=>[.pointer (some ⟨π 0,0,none⟩),.pointer (some ⟨π 5,0,none⟩),.pointer (some ⟨xb,xo,none⟩)]) (frL pb fb fo (stepS s) regs at_) (.int .i64 (cl (stepS s) regs x).1) (frL pb fb fo (cl (stepS s) regs x).2 regs at_)) :
 TE Tryd.prog 92 B 8 [0,3,4,5,6] (fun π=>[.pointer (some ⟨π 0,0,none⟩),.pointer (some ⟨π 5,0,none⟩),.pointer (some ⟨xb,xo,none⟩)]) (frL pb fb fo s regs at_) (.bool ((insS p cl at_ s regs x).1.fin == 0)) (frL pb fb fo (insS p cl at_ s regs x).1 (insS p cl at_ s regs x).2 at_):=by
 have hpb:=hd _ _ hp.m
 have hXn:=hd _ _ hX
 have hst:0≤s.steps∧s.steps≤1000000000:=⟨hinv.steps.1,by have:=hinv.steps.2;have:=hinv.fuel;omega⟩
 have hsi:=stepS_inv hinv
 unfold rightS at hx
 simp only [Bool.and_eq_true,decide_eq_true_eq] at hx
 obtain ⟨⟨⟨⟨⟨o1,o2⟩,oa⟩,od1⟩,od2⟩,ot⟩:=hx
 have hdst:x.dst < regs.length:=by omega
 have hrl':regs.length≤1000000000:=by omega
 by_cases hop:x.op=1∨x.op=2
 ·have e:insS p cl at_ s regs x=(stepS s,if (stepS s).fin=0 then setReg regs x.dst (argS regs x.a) else regs):=by
   unfold insS;split<;>simp [hop]
  rw [e];exact insA_te B pb fb fo hpb hfb s hst regs at_ hrl' x xb xo xcs xe A c hX hXn hXl hXv hop hdst
 by_cases htw:twoS x.op=true
 ·by_cases hq:(reckonS x.op (argS regs x.a) (argS regs x.b)).2=true
  ·have e:insS p cl at_ s regs x=(stepS s,if (stepS s).fin=0 then setReg regs x.dst (reckonS x.op (argS regs x.a) (argS regs x.b)).1 else regs):=by
    unfold insS;split<;>simp [hop,htw,hq]
   rw [e];exact insD_te B pb fb fo hpb hfb s hst regs at_ hrl' x xb xo xcs xe A c hX hXn hXl hXv htw (fit_arg hrf hxo.b).1 (fit_arg hrf hxo.b).2 hq hdst
  ·have e:insS p cl at_ s regs x=(if (stepS s).fin=0 then stopS (stepS s) 41 else stepS s,if (stepS s).fin=0 then setReg regs x.dst (reckonS x.op (argS regs x.a) (argS regs x.b)).1 else regs):=by
    unfold insS;split<;>simp [hop,htw,hq]
   rw [e];exact insE_te B pb fb fo hpb hfb s hst regs at_ hrl' x xb xo xcs xe A c hX hXn hXl hXv htw (fit_arg hrf hxo.b).1 (fit_arg hrf hxo.b).2 (by simpa using hq) hdst
 have h22:x.op≤2∨22≤x.op:=by unfold twoS at htw;simp at htw;omega
 by_cases hop22:x.op=22
 ·have e:insS p cl at_ s regs x=(stepS s,if (stepS s).fin=0 then setReg regs x.dst (widenS (argS regs x.a) x.size x.signed) else regs):=by
   unfold insS;split<;>simp [hop,htw,hop22]
  rw [e];exact insB_te B pb fb fo hpb hfb s hst regs at_ hrl' x xb xo xcs xe A c hX hXn hXl hXv hop22 hdst
 by_cases hop23:x.op=23
 ·unfold rightT at ot
  rw [if_neg (by omega),if_neg (by omega),if_pos hop23] at ot
  simp only [Bool.and_eq_true,decide_eq_true_eq] at ot
  obtain ⟨g,hg⟩:∃ g,p.globals[x.ref.toNat]?=some g:=⟨_,List.getElem?_eq_getElem (by omega)⟩
  obtain ⟨gb,go,gcs,ge,rfl,hG,hGl,GA,gc,hGv,_⟩:=hp.gs.get _ _ hg
  have e:insS p cl at_ s regs x=(stepS s,if (stepS s).fin=0 then setReg regs x.dst (i64 (i64 (65536+g.place)+x.off)) else regs):=by
   unfold insS placeOf;rw [hg];split<;>simp [hop,htw,hop23]
  rw [e];exact insG_te B pb fb fo hpb hfb s hst regs at_ hrl' x xb xo xcs xe A c hX hXn hXl hXv hop23 p pe P1 d1 gb go d2 hp.m g ot.1.2 ot.2 gcs ge GA gc hG (hd _ _ hG) hGl hGv hdst
 by_cases hop24:x.op=24
 ·unfold rightT at ot
  rw [if_neg (by omega),if_neg (by omega),if_neg hop23,if_pos hop24] at ot
  simp only [Bool.and_eq_true,decide_eq_true_eq] at ot
  have e:insS p cl at_ s regs x=(stepS s,if (stepS s).fin=0 then setReg regs x.dst (i64 (atOf at_ x.ref+x.off)) else regs):=by
   unfold insS;split<;>simp [hop,htw,hop24]
  rw [e]
  cases hat:at_ with
  | nil=>rw [hat] at hal;simp only [List.length_nil] at hal;omega
  | cons a0 al =>
   rw [hat,List.length_cons] at hal
   refine insH_te B pb fb fo hpb hfb s hst regs (a0::al) hrl' x xb xo xcs xe A c hX hXn hXl hXv hop24 a0 al rfl ot.1.2 (by omega) (atOf (a0::al) x.ref) ?_ hdst
   rw [Nat.zero_add,Nat.mul_one,rowC_ints,List.getElem?_map]
   unfold atOf
   rw [List.getD_eq_getElem?_getD,List.getElem?_eq_getElem (by simp;omega)];rfl
 by_cases hop25:x.op=25
 ·unfold rightT at ot
  rw [if_neg (by omega),if_neg (by omega),if_neg hop23,if_neg hop24,if_pos hop25] at ot
  simp only [Bool.and_eq_true,decide_eq_true_eq] at ot
  have e:insS p cl at_ s regs x=(stepS s,if (stepS s).fin=0 then setReg regs x.dst (4194304+16 * x.ref) else regs):=by
   unfold insS;split<;>simp [hop,htw,hop25]
  rw [e];exact insC_te B pb fb fo hpb hfb s hst regs at_ hrl' x xb xo xcs xe A c hX hXn hXl hXv hop25 ⟨ot.1.2,by omega⟩ hdst
 by_cases hop26:x.op=26
 ·unfold rightT at ot
  rw [if_pos (Or.inr hop26)] at ot
  simp only [Bool.and_eq_true,decide_eq_true_eq] at ot
  obtain ⟨n,hz,hn⟩:=size_nat ot.2
  have hzn:x.size.toNat=n:=by omega
  have e:insS p cl at_ s regs x=(if (stepS s).fin=0 then (loadS (stepS s) (i64 (argS regs x.a+x.off)) n x.signed).2 else stepS s,if (stepS s).fin=0 then setReg regs x.dst (loadS (stepS s) (i64 (argS regs x.a+x.off)) n x.signed).1 else regs):=by
   unfold insS;rw [hzn];split<;>simp [hop,htw,hop26]
  rw [e];exact insI_te B pb fb fo hpb hfb s hst regs at_ hrl' x xb xo xcs xe A c hX hXn hXl hXv hop26 n hn hz (inv_ok hsi _) hdst
 by_cases hop27:x.op=27
 ·unfold rightT at ot
  rw [if_neg (by omega),if_pos hop27] at ot
  simp only [Bool.and_eq_true,beq_iff_eq] at ot
  obtain ⟨n,hz,hn⟩:=size_nat ot.2
  have hzn:x.size.toNat=n:=by omega
  have e:insS p cl at_ s regs x=(if (stepS s).fin=0 then storeS (stepS s) (i64 (argS regs x.a+x.off)) n (argS regs x.b) else stepS s,regs):=by
   unfold insS;rw [hzn];split<;>simp [hop,htw,hop27]
  rw [e];exact insJ_te B pb fb fo hpb hfb s hst regs at_ hrl' x xb xo xcs xe A c hX hXn hXl hXv hop27 n hn hz (inv_ok hsi _) ot.1
 by_cases hop30:x.op=30
 ·unfold rightT at ot
  rw [if_neg (by omega),if_neg (by omega),if_neg hop23,if_neg hop24,if_neg hop25,if_neg (by omega),if_neg (by omega),if_pos hop30] at ot
  simp only [beq_iff_eq] at ot
  by_cases ho:(stepS s).out.length=10000
  ·have e:insS p cl at_ s regs x=(if (stepS s).fin=0 then stopS (stepS s) 45 else stepS s,regs):=by
    unfold insS;split<;>simp [hop,htw,hop30,ho]
   rw [e];exact insL_te B pb fb fo hpb hfb s hst regs at_ hrl' x xb xo xcs xe A c hX hXn hXl hXv hop30 ho ot
  ·have e:insS p cl at_ s regs x=(if (stepS s).fin=0 then { stepS s with out:=argS regs x.a::(stepS s).out } else stepS s,regs):=by
    unfold insS;split<;>simp [hop,htw,hop30,ho]
   rw [e];exact insK_te B pb fb fo hpb hfb s hst regs at_ hrl' x xb xo xcs xe A c hX hXn hXl hXv hop30 ho (by have:=hsi.out;have:=hsi.steps;have:=hsi.fuel;omega) ot
 have h28:x.op=28∨x.op=29:=by omega
 have e:insS p cl at_ s regs x=(if (stepS s).fin=0 then (cl (stepS s) regs x).2 else stepS s,if (stepS s).fin=0 then setReg regs x.dst (cl (stepS s) regs x).1 else regs):=by
  unfold insS
  split<;>rfl
 rw [e];exact insM_te B pb fb fo hpb hfb s hst regs at_ hrl' x xb xo xcs xe A c hX hXn hXl hXv h28 (cl (stepS s) regs x) (fun hf=>hcl hf h28) hdst
attribute [local irreducible] W RS
def accV (regs:List Int) (l:List ArgS):Nat→List Int
 | 0=>[]
 | i+1=>argS regs (l.getD i ⟨0,0⟩)::accV regs l i
theorem accV_len (regs:List Int) (l:List ArgS):∀ i,(accV regs l i).length=i:=by
 intro i
 induction i with
 | zero=>rfl
 | succ i ih=>rw [accV,List.length_cons,ih]
def placeAt (a:Int):Int:=i64 (a - 4194304)
def funcAt (a:Int):Int:=i64 ((placeAt a).tdiv 16)
def callsS (p:ProgS) (cl:RunS→Int→List Int→Int × RunS) (s:RunS) (regs:List Int) (x:InsS):Int × RunS :=
 if x.op=29 then
  if placeAt (argS regs x.a) < 0∨¬ (placeAt (argS regs x.a)).tmod 16=0∨(p.funcs.length:Int)≤funcAt (argS regs x.a) then (0,stopS (leakS s ⟨4,argS regs x.a,0⟩) 43)
  else if paramsAt p (funcAt (argS regs x.a))=some (x.args.length:Int) then cl (leakS s ⟨4,argS regs x.a,0⟩) (funcAt (argS regs x.a)) (accV regs x.args x.args.length)
  else (0,stopS (leakS s ⟨4,argS regs x.a,0⟩) 43)
 else cl s x.ref (accV regs x.args x.args.length)
def caL (pb:Nat) (s:RunS) (args:List Int) (π:Nat→Nat):List (Nat × Option Blk):=[(0,some ⟨⟨runC pb s (π 1) (π 2) (π 3) (π 4)⟩,105⟩),(1,rowBk intW 2 s.out),(2,rowBk leakW 74 s.leaks),(3,some ⟨⟨bytesC s.data⟩,5⟩),(4,some ⟨⟨bytesC s.stack⟩,5⟩),(5,rowBk intW 2 args)]
def arL (pb fb fo:Nat) (s:RunS) (regs at_ acc:List Int) (π:Nat→Nat):List (Nat × Option Blk):=[(0,some ⟨⟨runC pb s (π 1) (π 2) (π 3) (π 4)⟩,105⟩),(1,rowBk intW 2 s.out),(2,rowBk leakW 74 s.leaks),(3,some ⟨⟨bytesC s.data⟩,5⟩),(4,some ⟨⟨bytesC s.stack⟩,5⟩),(5,some ⟨⟨[.pointer (some ⟨fb,fo,none⟩),.slice (some ⟨π 6,0,none⟩) regs.length regs.length,rowVl 1 (π 7) at_]⟩,135⟩),(6,some ⟨⟨intsC regs⟩,2⟩),(7,rowBk intW 2 at_),(8,rowBk intW 2 acc)]
def CallTE (B:Hp) (pb:Nat) (cl:RunS→Int→List Int→Int × RunS) (s:RunS) (n:Int) (args:List Int):Prop :=
 TE Tryd.prog 57 B 6 [0,3,4] (fun π=>[.pointer (some ⟨π 0,0,none⟩),.int .i64 n,rowVl 1 (π 5) args]) (caL pb s args) (.int .i64 (cl s n args).1) (caL pb (cl s n args).2 args)
theorem frame_eq {p:Option Addr} {a a' b b' n:Nat} {at_:List Int} (h1:a=a') (h2:b=b'):(some ⟨⟨[.pointer p,.slice (some ⟨a,0,none⟩) n n,rowVl 1 b at_]⟩,135⟩:Option Blk)=some ⟨⟨[.pointer p,.slice (some ⟨a',0,none⟩) n n,rowVl 1 b' at_]⟩,135⟩:=by rw [h1,h2]
set_option maxHeartbeats 4000000 in
set_option maxRecDepth 100000 in
theorem calls28_te (B:Hp) (pb fb fo:Nat) (hpb:pb < B.n) (hfb:fb < B.n) (hd:∀ i b,B.m i=some b→i < B.n) (s:RunS) (regs at_:List Int) (hrl:regs.length≤1000000000) (x:InsS) (xb xo:Nat) (xcs:List Value) (xe:TypeId) (A:Option Addr) (c:Nat) (hX:B.m xb=some ⟨⟨xcs⟩,xe⟩) (hXn:xb < B.n) (hXl:xo+12≤xcs.length) (hXv:takeV xo 12 xcs=insC x A c) (hA:SlAt B A 2 x.args argR) (hal:x.args.length≤1000000) (hop:x.op=28)
 (cl:RunS→Int→List Int→Int × RunS) (hcl:CallTE B pb cl s x.ref (accV regs x.args x.args.length)) :
 TE Tryd.prog 109 B 8 [0,3,4,5,6] (fun π=>[.pointer (some ⟨π 0,0,none⟩),.pointer (some ⟨π 5,0,none⟩),.pointer (some ⟨xb,xo,none⟩)]) (frL pb fb fo s regs at_) (.int .i64 (cl s x.ref (accV regs x.args x.args.length)).1) (frL pb fb fo (cl s x.ref (accV regs x.args x.args.length)).2 regs at_):=by
 refine TE.intro (fn:=Tryd.f109) (c:=(Tryd.f109.body.getD .skip)) Tryd.func109 (by kernel_rfl) Tryd.ntmps109 (fun π=>by kernel_rfl) (fun π=>⟨⟨_,rfl⟩,⟨_,rfl⟩,⟨_,rfl⟩,⟨_,rfl⟩,⟨_,rfl⟩,trivial⟩) (fr_par _ _ _ hpb hfb (by omega)) (by simp) fun π=>?_
 refine W.ghost ?_
 conv=>arg 2;whnf
 repeat (first|refine Y1f ?_|refine Yj ?_|refine Y2 ?_|refine Y0 ?_|refine Y1y ?_|refine Y1 ?_|refine Y6 ?_)
 refine W.loopP (X:=Nat) (fun π i=>[(0,.pointer (some ⟨π 0,0,none⟩)),(1,.pointer (some ⟨π 5,0,none⟩)),(7,.int .i64 x.ref),(89,.slice A x.args.length c),(90,.int .i64 x.args.length),(91,.int .i64 i),(10,rowVl 1 (π 8) (accV regs x.args i))]) (fun _=>B) (fun π i=>arL pb fb fo s regs at_ (accV regs x.args i) π) (fun π' i=>EqUp π' π 8∧i≤x.args.length) (fun i=>x.args.length - i) [0,1,2,3,4,5,6,7,8] 0 ⟨⟨rfl,rfl,rfl,rfl,rfl,rfl,rfl,rfl,trivial⟩,Nat.zero_le _⟩ (by (refine FitL.mk ?_ ?_ ?_ ?_<;>(repeat' (first|exact trivial|exact rfl|(refine AllB.opt rfl rfl ?_)|apply And.intro));done)) ?_
 rintro π' i ⟨hE,hI⟩
 dsimp only at hI ⊢
 by_cases hlt:i < x.args.length
 ·have hg:x.args[i]?=some (x.args.getD i ⟨0,0⟩):=by rw [List.getD_eq_getElem?_getD,List.getElem?_eq_getElem hlt];rfl
  obtain ⟨gb,go,gcs,ge,rfl,hG,hGl,hGv⟩:=hA.get _ _ hg
  have hGn:=hd _ _ hG
  repeat (first|refine Yi ?_|refine Ya ?_|refine Y1t ?_|refine Y2y ?_|refine Y2q ?_|refine Yh ?_|refine Y3 ?_|refine Yd ?_|refine Y8 ?_|refine Y4 ?_|refine Yf ?_|refine Y0 ?_|refine Ye ?_|refine Y1 ?_|refine Y5 ?_)
  exact roundP_n (i+1) [0,1,2,3,4,5,6,7,11] rfl rfl ⟨hE,by omega⟩ (by omega) (by (refine FitL.mk ?_ ?_ ?_ ?_<;>(repeat' (first|exact trivial|exact rfl|(refine AllB.opt rfl rfl ?_)|apply And.intro));done))
 ·have hni:i=x.args.length:=by omega
  subst hni
  repeat (first|((with_reducible apply (RS.callE [0,1,2,3,4,8] [0,3,4]));(iterate 2 exact rfl);exact hcl;(iterate 2 exact rfl);exact ⟨rfl,rfl,rfl,rfl,rfl,rfl,trivial⟩;intro π2 hπ2)|refine Yh ?_|refine Y2 ?_|refine Y0 ?_|refine Y27 ?_|refine Y1 ?_|refine Y6 ?_|refine Yl ?_)
  have q:∀ j,j < 8→(∀ i,nthL [0,1,2,3,4,8] i=some j→i∈[0,3,4])→π2 j=π j:=fun j hj hk=>(hπ2 j (Nat.lt_succ_of_lt hj) hk).trans (hE.get hj)
  exact endsK_ret _ (.cons (.tmp rfl) .nil) (by (refine AtE.mk [0,1,2,3,4,5,6,7] rfl rfl rfl ?_ ?_ rfl<;>(repeat' (first|exact trivial|exact rfl|exact frame_eq (hπ2 6 (by decide) (keepE rfl)) (hπ2 7 (by decide) (keepE rfl))|exact q _ (by omega) (keepE rfl)|apply And.intro));done))
set_option maxHeartbeats 4000000 in
set_option maxRecDepth 100000 in
theorem calls29a_te (B:Hp) (pb fb fo:Nat) (hpb:pb < B.n) (hfb:fb < B.n) (hd:∀ i b,B.m i=some b→i < B.n) (p:ProgS) (pe:TypeId) (P1:Option Addr) (d1:Nat) (P2:Option Addr) (d2:Nat) (hp:ProgAt B pb p pe P1 d1 P2 d2) (s:RunS) (hlk:s.leaks.length+1≤1000000000) (regs at_:List Int) (hrl:regs.length≤1000000000) (x:InsS) (xb xo:Nat) (xcs:List Value) (xe:TypeId) (A:Option Addr) (c:Nat) (hX:B.m xb=some ⟨⟨xcs⟩,xe⟩) (hXn:xb < B.n) (hXl:xo+12≤xcs.length) (hXv:takeV xo 12 xcs=insC x A c) (hop:x.op=29)
 (k:Int) (hk:k=IntKind.i64.wrap (argS regs x.a - 4194304)) (q:Int) (hq:q=IntKind.i64.wrap ((IntKind.i64.wrap (argS regs x.a - 4194304)).tdiv 16)) (hb:k < 0) :
 TE Tryd.prog 109 B 8 [0,3,4,5,6] (fun π=>[.pointer (some ⟨π 0,0,none⟩),.pointer (some ⟨π 5,0,none⟩),.pointer (some ⟨xb,xo,none⟩)]) (frL pb fb fo s regs at_) (.int .i64 0) (frL pb fb fo (stopS (leakS s ⟨4,argS regs x.a,0⟩) 43) regs at_):=by
 refine TE.intro (fn:=Tryd.f109) (c:=(Tryd.f109.body.getD .skip)) Tryd.func109 (by kernel_rfl) Tryd.ntmps109 (fun π=>by kernel_rfl) (fun π=>⟨⟨_,rfl⟩,⟨_,rfl⟩,⟨_,rfl⟩,⟨_,rfl⟩,⟨_,rfl⟩,trivial⟩) (fr_par _ _ _ hpb hfb (by omega)) (by simp) fun π=>?_
 conv=>arg 2;whnf
 repeat (first|refine Yi ?_|refine Y1f ?_|refine Y24 ?_|refine Yc ?_|refine Y1i ?_|refine Y1l ?_|refine Y19 ?_|refine Yk ?_|refine Y3 ?_|refine Yt ?_|refine Y7 ?_|refine Y4 ?_|refine Y11 ?_|refine Yn ?_|refine Y0 ?_|refine Y1z ?_|refine Y1 ?_|refine Y5 ?_)
 exact endsK_ret _ (.cons (.tmp rfl) .nil) (by (refine AtE.mk [0,1,9,3,4,5,6,7] rfl rfl rfl ?_ ?_ rfl<;>(repeat' (first|exact trivial|exact rfl|apply And.intro));done))
set_option maxHeartbeats 4000000 in
set_option maxRecDepth 100000 in
theorem calls29b_te (B:Hp) (pb fb fo:Nat) (hpb:pb < B.n) (hfb:fb < B.n) (hd:∀ i b,B.m i=some b→i < B.n) (p:ProgS) (pe:TypeId) (P1:Option Addr) (d1:Nat) (P2:Option Addr) (d2:Nat) (hp:ProgAt B pb p pe P1 d1 P2 d2) (s:RunS) (hlk:s.leaks.length+1≤1000000000) (regs at_:List Int) (hrl:regs.length≤1000000000) (x:InsS) (xb xo:Nat) (xcs:List Value) (xe:TypeId) (A:Option Addr) (c:Nat) (hX:B.m xb=some ⟨⟨xcs⟩,xe⟩) (hXn:xb < B.n) (hXl:xo+12≤xcs.length) (hXv:takeV xo 12 xcs=insC x A c) (hop:x.op=29)
 (k:Int) (hk:k=IntKind.i64.wrap (argS regs x.a - 4194304)) (q:Int) (hq:q=IntKind.i64.wrap ((IntKind.i64.wrap (argS regs x.a - 4194304)).tdiv 16)) (hb:0≤k) (hb2:¬ (IntKind.i64.wrap (argS regs x.a - 4194304)).tmod 16=0) :
 TE Tryd.prog 109 B 8 [0,3,4,5,6] (fun π=>[.pointer (some ⟨π 0,0,none⟩),.pointer (some ⟨π 5,0,none⟩),.pointer (some ⟨xb,xo,none⟩)]) (frL pb fb fo s regs at_) (.int .i64 0) (frL pb fb fo (stopS (leakS s ⟨4,argS regs x.a,0⟩) 43) regs at_):=by
 refine TE.intro (fn:=Tryd.f109) (c:=(Tryd.f109.body.getD .skip)) Tryd.func109 (by kernel_rfl) Tryd.ntmps109 (fun π=>by kernel_rfl) (fun π=>⟨⟨_,rfl⟩,⟨_,rfl⟩,⟨_,rfl⟩,⟨_,rfl⟩,⟨_,rfl⟩,trivial⟩) (fr_par _ _ _ hpb hfb (by omega)) (by simp) fun π=>?_
 conv=>arg 2;whnf
 repeat (first|refine Yi ?_|refine Y1f ?_|refine Y4m ?_|refine Y24 ?_|refine Yc ?_|refine Y1i ?_|refine Y1l ?_|refine Y19 ?_|refine Yk ?_|refine Yb ?_|refine Y3 ?_|refine Y2 ?_|refine Yt ?_|refine Y7 ?_|refine Y4 ?_|refine Y11 ?_|refine Yn ?_|refine Y0 ?_|refine Y1z ?_|refine Y1 ?_|refine Y5 ?_)
 exact endsK_ret _ (.cons (.tmp rfl) .nil) (by (refine AtE.mk [0,1,9,3,4,5,6,7] rfl rfl rfl ?_ ?_ rfl<;>(repeat' (first|exact trivial|exact rfl|apply And.intro));done))
set_option maxHeartbeats 4000000 in
set_option maxRecDepth 100000 in
theorem calls29c_te (B:Hp) (pb fb fo:Nat) (hpb:pb < B.n) (hfb:fb < B.n) (hd:∀ i b,B.m i=some b→i < B.n) (p:ProgS) (pe:TypeId) (P1:Option Addr) (d1:Nat) (P2:Option Addr) (d2:Nat) (hp:ProgAt B pb p pe P1 d1 P2 d2) (s:RunS) (hlk:s.leaks.length+1≤1000000000) (regs at_:List Int) (hrl:regs.length≤1000000000) (x:InsS) (xb xo:Nat) (xcs:List Value) (xe:TypeId) (A:Option Addr) (c:Nat) (hX:B.m xb=some ⟨⟨xcs⟩,xe⟩) (hXn:xb < B.n) (hXl:xo+12≤xcs.length) (hXv:takeV xo 12 xcs=insC x A c) (hop:x.op=29)
 (k:Int) (hk:k=IntKind.i64.wrap (argS regs x.a - 4194304)) (q:Int) (hq:q=IntKind.i64.wrap ((IntKind.i64.wrap (argS regs x.a - 4194304)).tdiv 16)) (hb:0≤k) (hb2:(IntKind.i64.wrap (argS regs x.a - 4194304)).tmod 16=0) (hb3:(p.funcs.length:Int)≤q) :
 TE Tryd.prog 109 B 8 [0,3,4,5,6] (fun π=>[.pointer (some ⟨π 0,0,none⟩),.pointer (some ⟨π 5,0,none⟩),.pointer (some ⟨xb,xo,none⟩)]) (frL pb fb fo s regs at_) (.int .i64 0) (frL pb fb fo (stopS (leakS s ⟨4,argS regs x.a,0⟩) 43) regs at_):=by
 refine TE.intro (fn:=Tryd.f109) (c:=(Tryd.f109.body.getD .skip)) Tryd.func109 (by kernel_rfl) Tryd.ntmps109 (fun π=>by kernel_rfl) (fun π=>⟨⟨_,rfl⟩,⟨_,rfl⟩,⟨_,rfl⟩,⟨_,rfl⟩,⟨_,rfl⟩,trivial⟩) (fr_par _ _ _ hpb hfb (by omega)) (by simp) fun π=>?_
 conv=>arg 2;whnf
 repeat (first|refine Yi ?_|refine Y1f ?_|refine Y51 ?_|refine Y4m ?_|refine Y24 ?_|refine Yc ?_|refine Y1i ?_|refine Y4g ?_|refine Y1l ?_|refine Yj ?_|refine Yb ?_|refine Y3 ?_|refine Y2 ?_|refine Yt ?_|refine Y7 ?_|refine Y4 ?_|refine Y11 ?_|refine Y0 ?_|refine Y1z ?_|refine Y1 ?_|refine Y5 ?_)
 exact endsK_ret _ (.cons (.tmp rfl) .nil) (by (refine AtE.mk [0,1,9,3,4,5,6,7] rfl rfl rfl ?_ ?_ rfl<;>(repeat' (first|exact trivial|exact rfl|apply And.intro));done))
set_option maxHeartbeats 4000000 in
set_option maxRecDepth 100000 in
theorem calls29d_te (B:Hp) (pb fb fo:Nat) (hpb:pb < B.n) (hfb:fb < B.n) (hd:∀ i b,B.m i=some b→i < B.n) (p:ProgS) (pe:TypeId) (P1:Option Addr) (d1:Nat) (P2:Option Addr) (d2:Nat) (hp:ProgAt B pb p pe P1 d1 P2 d2) (s:RunS) (hlk:s.leaks.length+1≤1000000000) (regs at_:List Int) (hrl:regs.length≤1000000000) (x:InsS) (xb xo:Nat) (xcs:List Value) (xe:TypeId) (A:Option Addr) (c:Nat) (hX:B.m xb=some ⟨⟨xcs⟩,xe⟩) (hXn:xb < B.n) (hXl:xo+12≤xcs.length) (hXv:takeV xo 12 xcs=insC x A c) (hop:x.op=29)
 (k:Int) (hk:k=IntKind.i64.wrap (argS regs x.a - 4194304)) (q:Int) (hq:q=IntKind.i64.wrap ((IntKind.i64.wrap (argS regs x.a - 4194304)).tdiv 16))  (hb:0≤k) (hb2:(IntKind.i64.wrap (argS regs x.a - 4194304)).tmod 16=0) (qn:Nat) (hqi:IntKind.i64.wrap ((IntKind.i64.wrap (argS regs x.a - 4194304)).tdiv 16)=(qn:Int)) (hb3:qn < p.funcs.length) (gb go:Nat) (hP1:P1=some ⟨gb,go,none⟩) (g:FuncS) (fcs:List Value) (fe:TypeId) (F1:Option Addr) (c1:Nat) (F2:Option Addr) (c2:Nat) (F3:Option Addr) (c3:Nat) (hF:B.m gb=some ⟨⟨fcs⟩,fe⟩) (hFn:gb < B.n) (hFv:takeV (go+qn * 6) 6 fcs=funcC g F1 c1 F2 c2 F3 c3) (hne:¬ g.params=x.args.length) :
 TE Tryd.prog 109 B 8 [0,3,4,5,6] (fun π=>[.pointer (some ⟨π 0,0,none⟩),.pointer (some ⟨π 5,0,none⟩),.pointer (some ⟨xb,xo,none⟩)]) (frL pb fb fo s regs at_) (.int .i64 0) (frL pb fb fo (stopS (leakS s ⟨4,argS regs x.a,0⟩) 43) regs at_):=by
 refine TE.intro (fn:=Tryd.f109) (c:=(Tryd.f109.body.getD .skip)) Tryd.func109 (by kernel_rfl) Tryd.ntmps109 (fun π=>by kernel_rfl) (fun π=>⟨⟨_,rfl⟩,⟨_,rfl⟩,⟨_,rfl⟩,⟨_,rfl⟩,⟨_,rfl⟩,trivial⟩) (fr_par _ _ _ hpb hfb (by omega)) (by simp) fun π=>?_
 subst hP1
 conv=>arg 2;whnf
 repeat (first|refine Yi ?_|refine Y1f ?_|refine Y51 ?_|refine Y4m ?_|refine Y24 ?_|refine Yc ?_|refine Y1i ?_|refine Y43 ?_|((with_reducible apply RS.indexAddrS);(iterate 4 exact rfl);exact hqi;omega)|refine Y1l ?_|refine Yj ?_|refine Yb ?_|refine Y3 ?_|refine Y2 ?_|refine Yt ?_|refine Y7 ?_|refine Y4 ?_|refine Y11 ?_|refine Y0 ?_|refine Y2v ?_|refine Y1 ?_|refine Y5 ?_|refine Y6 ?_)
 exact endsK_ret _ (.cons (.tmp rfl) .nil) (by (refine AtE.mk [0,1,9,3,4,5,6,7] rfl rfl rfl ?_ ?_ rfl<;>(repeat' (first|exact trivial|exact rfl|apply And.intro));done))
set_option maxHeartbeats 4000000 in
set_option maxRecDepth 100000 in
theorem calls29e_te (B:Hp) (pb fb fo:Nat) (hpb:pb < B.n) (hfb:fb < B.n) (hd:∀ i b,B.m i=some b→i < B.n) (p:ProgS) (pe:TypeId) (P1:Option Addr) (d1:Nat) (P2:Option Addr) (d2:Nat) (hp:ProgAt B pb p pe P1 d1 P2 d2) (s:RunS) (hlk:s.leaks.length+1≤1000000000) (regs at_:List Int) (hrl:regs.length≤1000000000) (x:InsS) (xb xo:Nat) (xcs:List Value) (xe:TypeId) (A:Option Addr) (c:Nat) (hX:B.m xb=some ⟨⟨xcs⟩,xe⟩) (hXn:xb < B.n) (hXl:xo+12≤xcs.length) (hXv:takeV xo 12 xcs=insC x A c) (hop:x.op=29)
 (k:Int) (hk:k=IntKind.i64.wrap (argS regs x.a - 4194304)) (q:Int) (hq:q=IntKind.i64.wrap ((IntKind.i64.wrap (argS regs x.a - 4194304)).tdiv 16))  (hb:0≤k) (hb2:(IntKind.i64.wrap (argS regs x.a - 4194304)).tmod 16=0) (qn:Nat) (hqi:IntKind.i64.wrap ((IntKind.i64.wrap (argS regs x.a - 4194304)).tdiv 16)=(qn:Int)) (hb3:qn < p.funcs.length) (gb go:Nat) (hP1:P1=some ⟨gb,go,none⟩) (g:FuncS) (fcs:List Value) (fe:TypeId) (F1:Option Addr) (c1:Nat) (F2:Option Addr) (c2:Nat) (F3:Option Addr) (c3:Nat) (hF:B.m gb=some ⟨⟨fcs⟩,fe⟩) (hFn:gb < B.n) (hFv:takeV (go+qn * 6) 6 fcs=funcC g F1 c1 F2 c2 F3 c3) (hne:g.params=x.args.length) (hA:SlAt B A 2 x.args argR) (hal:x.args.length≤1000000) (cl:RunS→Int→List Int→Int × RunS) (hcl:CallTE B pb cl (leakS s ⟨4,argS regs x.a,0⟩) q (accV regs x.args x.args.length)) :
 TE Tryd.prog 109 B 8 [0,3,4,5,6] (fun π=>[.pointer (some ⟨π 0,0,none⟩),.pointer (some ⟨π 5,0,none⟩),.pointer (some ⟨xb,xo,none⟩)]) (frL pb fb fo s regs at_) (.int .i64 (cl (leakS s ⟨4,argS regs x.a,0⟩) q (accV regs x.args x.args.length)).1) (frL pb fb fo (cl (leakS s ⟨4,argS regs x.a,0⟩) q (accV regs x.args x.args.length)).2 regs at_):=by
 refine TE.intro (fn:=Tryd.f109) (c:=(Tryd.f109.body.getD .skip)) Tryd.func109 (by kernel_rfl) Tryd.ntmps109 (fun π=>by kernel_rfl) (fun π=>⟨⟨_,rfl⟩,⟨_,rfl⟩,⟨_,rfl⟩,⟨_,rfl⟩,⟨_,rfl⟩,trivial⟩) (fr_par _ _ _ hpb hfb (by omega)) (by simp) fun π=>?_
 subst hP1
 subst hq
 conv=>arg 2;whnf
 repeat (first|refine Yi ?_|refine Y1f ?_|refine Y51 ?_|refine Y4m ?_|refine Y24 ?_|refine Yc ?_|refine Y1i ?_|refine Y43 ?_|((with_reducible apply RS.indexAddrS);(iterate 4 exact rfl);exact hqi;omega)|refine Yj ?_|refine Yb ?_|refine Y3 ?_|refine Y2 ?_|refine Yt ?_|refine Y7 ?_|refine Y4 ?_|refine Y11 ?_|refine Y0 ?_|refine Y1y ?_|refine Y1 ?_|refine Y5 ?_|refine Y6 ?_)
 refine W.ghost ?_
 refine W.loopP (X:=Nat) (fun π i=>[(0,.pointer (some ⟨π 0,0,none⟩)),(1,.pointer (some ⟨π 5,0,none⟩)),(7,.int .i64 (IntKind.i64.wrap ((IntKind.i64.wrap (argS regs x.a - 4194304)).tdiv 16))),(89,.slice A x.args.length c),(90,.int .i64 x.args.length),(91,.int .i64 i),(10,rowVl 1 (π 8) (accV regs x.args i))]) (fun _=>B) (fun π i=>arL pb fb fo (leakS s ⟨4,argS regs x.a,0⟩) regs at_ (accV regs x.args i) π) (fun π' i=>EqK π' π [0,3,4,5,6]∧i≤x.args.length) (fun i=>x.args.length - i) [0,1,9,3,4,5,6,7,10] 0 ⟨⟨rfl,rfl,rfl,rfl,rfl,trivial⟩,Nat.zero_le _⟩ (by (refine FitL.mk ?_ ?_ ?_ ?_<;>(repeat' (first|exact trivial|exact rfl|(refine AllB.opt rfl rfl ?_)|apply And.intro));done)) ?_
 rintro π' i ⟨hE,hI⟩
 dsimp only at hI ⊢
 by_cases hlt:i < x.args.length
 ·have hg:x.args[i]?=some (x.args.getD i ⟨0,0⟩):=by rw [List.getD_eq_getElem?_getD,List.getElem?_eq_getElem hlt];rfl
  obtain ⟨gb,go,gcs,ge,rfl,hG,hGl,hGv⟩:=hA.get _ _ hg
  have hGn:=hd _ _ hG
  repeat (first|refine Yi ?_|refine Ya ?_|refine Y1t ?_|refine Y2y ?_|refine Y2q ?_|refine Yh ?_|refine Y3 ?_|refine Yd ?_|refine Y8 ?_|refine Y4 ?_|refine Yf ?_|refine Y0 ?_|refine Ye ?_|refine Y1 ?_|refine Y5 ?_)
  exact roundP_n (i+1) [0,1,2,3,4,5,6,7,11] rfl rfl ⟨hE,by omega⟩ (by omega) (by (refine FitL.mk ?_ ?_ ?_ ?_<;>(repeat' (first|exact trivial|exact rfl|(refine AllB.opt rfl rfl ?_)|apply And.intro));done))
 ·have hni:i=x.args.length:=by omega
  subst hni
  repeat (first|((with_reducible apply (RS.callE [0,1,2,3,4,8] [0,3,4]));(iterate 2 exact rfl);exact hcl;(iterate 2 exact rfl);exact ⟨rfl,rfl,rfl,rfl,rfl,rfl,trivial⟩;intro π2 hπ2)|refine Yh ?_|refine Y2 ?_|refine Y0 ?_|refine Y27 ?_|refine Y1 ?_|refine Y6 ?_|refine Yl ?_)
  have q:∀ j,j∈[0,3,4,5,6]→j < 9→(∀ i,nthL [0,1,2,3,4,8] i=some j→i∈[0,3,4])→π2 j=π j:=fun j hm hj hk=>(hπ2 j hj hk).trans (hE.get hm)
  exact endsK_ret _ (.cons (.tmp rfl) .nil) (by (refine AtE.mk [0,1,2,3,4,5,6,7] rfl rfl rfl ?_ ?_ rfl<;>(repeat' (first|exact trivial|exact rfl|exact frame_eq (hπ2 6 (by decide) (keepE rfl)) (hπ2 7 (by decide) (keepE rfl))|exact q _ (by simp) (by decide) (keepE rfl)|apply And.intro));done))
theorem wrap_fit {n:Int} (h:fitI n):IntKind.i64.wrap n=n:=wrap64_fit h.1 h.2
theorem fit_tdiv16 {k:Int} (h:fitI k):fitI (k.tdiv 16):=by
 obtain ⟨h1,h2⟩:=h
 have e:(k.tdiv 16).natAbs=k.natAbs / 16:=by rw [Int.natAbs_tdiv];rfl
 have:(k.tdiv 16).natAbs≤k.natAbs:=by rw [e];exact Nat.div_le_self _ _
 by_cases hk:k=-9223372036854775808
 ·subst hk;exact ⟨by decide,by decide⟩
 ·constructor<;>omega
theorem tdiv16_nn {k:Int} (h:0≤k):0≤k.tdiv 16:=Int.tdiv_nonneg h (by omega)
theorem calls_te (B:Hp) (hd:∀ i b,B.m i=some b→i < B.n) (p:ProgS) (pb:Nat) (pe:TypeId) (P1:Option Addr) (d1:Nat) (P2:Option Addr) (d2:Nat) (hp:ProgAt B pb p pe P1 d1 P2 d2) (fb fo:Nat) (hfb:fb < B.n) (f:FuncS) (s:RunS) (hlk:s.leaks.length+1≤1000000000) (regs at_:List Int)
 (hrl:regs.length≤1000000000) (x:InsS) (hx:rightS p f x=true) (hop:x.op=28∨x.op=29) (hal:x.args.length≤1000000) (xb xo:Nat) (xcs:List Value) (xe:TypeId) (A:Option Addr) (c:Nat) (hX:B.m xb=some ⟨⟨xcs⟩,xe⟩) (hXl:xo+12≤xcs.length) (hXv:takeV xo 12 xcs=insC x A c) (hA:SlAt B A 2 x.args argR)
 (cl:RunS→Int→List Int→Int × RunS) (hcl:∀ s' n args,(s'=s∨∃ q,s'=leakS s q)→paramsAt p n=some (args.length:Int)→(∃ k,args=accV regs x.args k)→CallTE B pb cl s' n args) :
 TE Tryd.prog 109 B 8 [0,3,4,5,6] (fun π=>[.pointer (some ⟨π 0,0,none⟩),.pointer (some ⟨π 5,0,none⟩),.pointer (some ⟨xb,xo,none⟩)]) (frL pb fb fo s regs at_) (.int .i64 (callsS p cl s regs x).1) (frL pb fb fo (callsS p cl s regs x).2 regs at_):=by
 have hpb:=hd _ _ hp.m
 have hXn:=hd _ _ hX
 unfold rightS at hx
 simp only [Bool.and_eq_true,decide_eq_true_eq] at hx
 obtain ⟨⟨⟨⟨⟨o1,o2⟩,oa⟩,od1⟩,od2⟩,ot⟩:=hx
 rcases hop with hop|hop
 ·unfold rightT at ot
  rw [if_neg (by omega),if_neg (by omega),if_neg (by omega),if_neg (by omega),if_neg (by omega),if_pos hop] at ot
  simp only [beq_iff_eq] at ot
  have e:callsS p cl s regs x=cl s x.ref (accV regs x.args x.args.length):=by unfold callsS;rw [if_neg (by omega)]
  rw [e]
  exact calls28_te B pb fb fo hpb hfb hd s regs at_ hrl x xb xo xcs xe A c hX hXn hXl hXv hA hal hop cl (hcl s x.ref _ (.inl rfl) (by rw [accV_len];exact ot) ⟨_,rfl⟩)
 ·have hfk:fitI (placeAt (argS regs x.a)):=fit_i64 _
  have hfq:fitI ((placeAt (argS regs x.a)).tdiv 16):=fit_tdiv16 hfk
  unfold callsS
  rw [if_pos hop]
  by_cases h1:placeAt (argS regs x.a) < 0
  ·rw [if_pos (.inl h1)]
   exact calls29a_te B pb fb fo hpb hfb hd p pe P1 d1 P2 d2 hp s hlk regs at_ hrl x xb xo xcs xe A c hX hXn hXl hXv hop _ rfl _ rfl h1
  have h1':0≤placeAt (argS regs x.a):=by omega
  by_cases h2:¬ (placeAt (argS regs x.a)).tmod 16=0
  ·rw [if_pos (.inr (.inl h2))]
   exact calls29b_te B pb fb fo hpb hfb hd p pe P1 d1 P2 d2 hp s hlk regs at_ hrl x xb xo xcs xe A c hX hXn hXl hXv hop _ rfl _ rfl h1' h2
  have h2':(placeAt (argS regs x.a)).tmod 16=0:=by omega
  by_cases h3:(p.funcs.length:Int)≤funcAt (argS regs x.a)
  ·rw [if_pos (.inr (.inr h3))]
   exact calls29c_te B pb fb fo hpb hfb hd p pe P1 d1 P2 d2 hp s hlk regs at_ hrl x xb xo xcs xe A c hX hXn hXl hXv hop _ rfl _ rfl h1' h2' h3
  rw [if_neg (fun h=>h.elim h1 fun h=>h.elim h2 h3)]
  have hq:funcAt (argS regs x.a)=(placeAt (argS regs x.a)).tdiv 16:=wrap_fit hfq
  have hq0:0≤funcAt (argS regs x.a):=by rw [hq];exact tdiv16_nn h1'
  obtain ⟨qn,hqn⟩:∃ n:Nat,funcAt (argS regs x.a)=n:=⟨_,(Int.toNat_of_nonneg hq0).symm⟩
  have hql:qn < p.funcs.length:=by omega
  obtain ⟨g,hg⟩:∃ g,p.funcs[qn]?=some g:=⟨_,List.getElem?_eq_getElem hql⟩
  obtain ⟨gb,go,fcs,fe,hP1,hF,hFl,F1,c1,F2,c2,F3,c3,hFv,_⟩:=hp.fs.get _ _ hg
  have hpar:paramsAt p (funcAt (argS regs x.a))=some g.params:=by
   unfold paramsAt;rw [if_pos hq0,hqn];simp [hg]
  rw [hpar]
  by_cases h4:g.params=(x.args.length:Int)
  ·rw [if_pos (by rw [h4])]
   exact calls29e_te B pb fb fo hpb hfb hd p pe P1 d1 P2 d2 hp s hlk regs at_ hrl x xb xo xcs xe A c hX hXn hXl hXv hop _ rfl _ rfl h1' h2' qn hqn hql gb go hP1 g fcs fe F1 c1 F2 c2 F3 c3 hF (hd _ _ hF) hFv h4 hA hal cl (hcl _ _ _ (.inr ⟨_,rfl⟩) (by rw [accV_len,← h4];exact hpar) ⟨_,rfl⟩)
  ·rw [if_neg (fun h=>h4 (by injection h))]
   exact calls29d_te B pb fb fo hpb hfb hd p pe P1 d1 P2 d2 hp s hlk regs at_ hrl x xb xo xcs xe A c hX hXn hXl hXv hop _ rfl _ rfl h1' h2' qn hqn hql gb go hP1 g fcs fe F1 c1 F2 c2 F3 c3 hF (hd _ _ hF) hFv h4
def slotSz (z:Int):Int:=IntKind.i64.wrap ((BitVec.ofInt IntKind.i64.bits (IntKind.i64.wrap ((if 0 > z then 0 else z)+7)) &&& ~~~(BitVec.ofInt IntKind.i64.bits 7)).toNat:Int)
def spAt (sp:Int) (sl:List Int):Nat→Int
 | 0=>sp
 | i+1=>IntKind.i64.wrap (spAt sp sl i - slotSz (sl.getD i 0))
def rowAt (sp:Int) (sl:List Int):Nat→List Int
 | 0=>[]
 | i+1=>spAt sp sl (i+1)::rowAt sp sl i
theorem rowAt_len (sp:Int) (sl:List Int):∀ i,(rowAt sp sl i).length=i:=by
 intro i
 induction i with
 | zero=>rfl
 | succ i ih=>rw [rowAt,List.length_cons,ih]
def regsS (f:FuncS) (args:List Int):List Int:=args.reverse++List.replicate (f.regs.toNat - args.length) 0
theorem setL_append:∀ (vs cs:List Value) (i:Nat),vs.length+i≤cs.length→setL cs i vs=cs.take i++vs++cs.drop (i+vs.length):=by
 intro vs
 induction vs with
 | nil=>intro cs i h;rw [setL_nil];simp
 | cons v vs ih =>
  intro cs i h
  simp only [List.length_cons] at h
  rw [setL_cons,ih _ _ (by simp;omega)]
  have e:List.take (i+1) (cs.set i v)=List.take i cs++[v]:=by
   rw [List.take_add_one,List.take_set_of_le (by omega)]
   simp [List.getElem?_set];omega
  rw [e,List.drop_set_of_lt (by omega)];simp [Nat.add_assoc,Nat.add_comm 1]
theorem regs_copy {f:FuncS} {args:List Int} {n:Nat} (hn:f.regs=n) (ha:args.length≤n):setL (repL [.int .i64 0] n) 0 (rowC intW args)=intsC (regsS f args):=by
 rw [repL_one,rowC_ints,setL_append _ _ _ (by simp;omega)]
 unfold regsS intsC
 rw [hn]
 simp
def cbL (pb fb fo m:Nat) (s:RunS) (args regs at_:List Int) (π:Nat→Nat):List (Nat × Option Blk):=[(0,some ⟨⟨runC pb s (π 1) (π 2) (π 3) (π 4)⟩,105⟩),(1,rowBk intW 2 s.out),(2,rowBk leakW 74 s.leaks),(3,some ⟨⟨bytesC s.data⟩,5⟩),(4,some ⟨⟨bytesC s.stack⟩,5⟩),(5,rowBk intW 2 args),(6,some ⟨⟨intsC regs⟩,2⟩),(7,some ⟨⟨[.pointer (some ⟨fb,fo,none⟩),(.slice (some ⟨π 6,0,none⟩) m m),rowVl 1 (π 8) at_]⟩,135⟩),(8,rowBk intW 2 at_)]
theorem ca_par {n K:Nat} {pb:Nat} (s:RunS) (args:List Int) (hp:pb < n) (hK:6≤K):ParL n K (caL pb s args) 6:=by
 refine ⟨ParB_row (fun a v hv=>?_) args,run_par s hp (by omega)⟩
 simp only [intW,List.mem_cons,List.not_mem_nil,or_false] at hv
 subst hv;simp
def BlocksTE (B:Hp) (pb fb fo:Nat) (s:RunS) (regs at_:List Int) (r:Int × RunS × List Int):Prop :=
 TE Tryd.prog 78 B 8 [0,3,4,5,6] (fun π=>[.pointer (some ⟨π 0,0,none⟩),.pointer (some ⟨π 5,0,none⟩)]) (frL pb fb fo s regs at_) (.int .i64 r.1) (frL pb fb fo r.2.1 r.2.2 at_)
theorem regsS_len {f:FuncS} {args:List Int} {n:Nat} (hn:f.regs=n) (ha:args.length≤n):(regsS f args).length=n:=by
 unfold regsS;simp [hn];omega
def spDone (s:RunS) (f:FuncS):RunS:={ s with deep:=s.deep+1,sp:=spAt s.sp f.slots f.slots.length }
theorem ints_one (args:List Int):(rowC intW args).all (·.oneCell')=true:=by
 rw [rowC_ints,List.all_map,List.all_eq_true]
 intro _ _;rfl
set_option maxHeartbeats 4000000 in
set_option maxRecDepth 100000 in
theorem call_te (B:Hp) (hd:∀ i b,B.m i=some b→i < B.n) (p:ProgS) (pb:Nat) (hpb:pb < B.n) (pe:TypeId) (P1:Option Addr) (d1:Nat) (P2:Option Addr) (d2:Nat) (hp:ProgAt B pb p pe P1 d1 P2 d2) (s:RunS) (hdp:0≤s.deep∧s.deep+1≤100) (qn:Nat) (n:Int) (hn:n=(qn:Int)) (hnl:qn < p.funcs.length) (args:List Int)
 (gb go:Nat) (hP1:P1=some ⟨gb,go,none⟩) (f:FuncS) (fcs:List Value) (fe:TypeId) (F1:Option Addr) (c1:Nat) (F2:Option Addr) (c2:Nat) (F3:Option Addr) (c3:Nat) (hF:B.m gb=some ⟨⟨fcs⟩,fe⟩) (hFn:gb < B.n) (hFv:takeV (go+qn * 6) 6 fcs=funcC f F1 c1 F2 c2 F3 c3) (hS:SlAt B F2 1 f.slots intR) (hsl:f.slots.length≤1000000)
 (m:Nat) (hm:f.regs=(m:Int)) (hm2:m≤1000000) (hal:args.length≤m) (r:Int × RunS × List Int) (hlow:¬ spAt s.sp f.slots f.slots.length < 134217728 - (s.stack.length:Int)) (hsk:s.stack.length≤1000000) (hbl:BlocksTE B pb gb (go+qn * 6) (spDone s f) (regsS f args) (rowAt s.sp f.slots f.slots.length) r) (hrd:0≤r.2.1.deep∧r.2.1.deep≤101) :
 TE Tryd.prog 57 B 6 [0,3,4] (fun π=>[.pointer (some ⟨π 0,0,none⟩),.int .i64 n,rowVl 1 (π 5) args]) (caL pb s args) (.int .i64 r.1) (caL pb { r.2.1 with sp:=s.sp,deep:=r.2.1.deep - 1 } args):=by
 subst hP1
 refine TE.intro (fn:=Tryd.f57) (c:=(Tryd.f57.body.getD .skip)) Tryd.func57 (by kernel_rfl) Tryd.ntmps57 (fun π=>by kernel_rfl) (fun π=>⟨⟨_,rfl⟩,⟨_,rfl⟩,⟨_,rfl⟩,trivial⟩) (ca_par _ _ hpb (by omega)) (by simp) fun π=>?_
 conv=>arg 2;whnf
 repeat (first|((with_reducible apply RS.load1B);(iterate 3 exact rfl);first|exact hp.m;exact hpb;exact rfl|exact hF;exact hFn;(first|exact take_nth (j:=3) hFv rfl|exact take_nth (j:=4) hFv rfl))|((with_reducible apply RS.indexAddrS);(iterate 4 exact rfl);exact hn;exact hnl)|((with_reducible apply (RS.makeSlice (n:=m) (kx:=.i64) (ky:=.i64) (cs:=repL [.int .i64 0] m)));(iterate 2 exact rfl);exact (show _=some (Value.int IntKind.i64 (m:Int)) from congrArg (fun z=>some (Value.int IntKind.i64 z)) hm);exact (show _=some (Value.int IntKind.i64 (m:Int)) from congrArg (fun z=>some (Value.int IntKind.i64 z)) hm);(iterate 2 exact rfl);(constructor<;>omega);exact rfl)|((with_reducible apply (RS.copyRow (w:=intW) (l0:=args) (cs':=intsC (regsS f args))));(iterate 8 exact rfl);exact fun _=>rfl;exact hal;(rw [repL_one,List.length_replicate];omega);exact ints_one args;exact regs_copy hm hal)|refine Y1o ?_|refine Y2 ?_|refine Yu ?_|refine Y7 ?_|refine Y4 ?_|refine Y11 ?_|refine Y0 ?_|refine Y1y ?_|refine Y1 ?_|refine Y6 ?_)
 refine W.ghost ?_
 refine W.loopP (X:=Nat) (fun π i=>[(0,.pointer (some ⟨π 0,0,none⟩)),(7,.pointer (some ⟨π 7,0,none⟩)),(8,.int .i64 s.sp),(65,.slice F2 f.slots.length c2),(66,.int .i64 f.slots.length),(67,.int .i64 i)]) (fun _=>B) (fun π i=>cbL pb gb (go+qn * 6) m { s with deep:=s.deep+1,sp:=spAt s.sp f.slots i } args (regsS f args) (rowAt s.sp f.slots i) π) (fun π' i=>EqUp π' π 6∧i≤f.slots.length) (fun i=>f.slots.length - i) [0,1,2,3,4,5,6,7,8] 0 ⟨⟨rfl,rfl,rfl,rfl,rfl,rfl,trivial⟩,Nat.zero_le _⟩ (by (refine FitL.mk ?_ ?_ ?_ ?_<;>(repeat' (first|exact trivial|exact rfl|(refine AllB.opt rfl rfl ?_)|apply And.intro));done)) ?_
 rintro π' i ⟨hE,hI⟩
 dsimp only at hI ⊢
 by_cases hlt:i < f.slots.length
 ·have hg:f.slots[i]?=some (f.slots.getD i 0):=by rw [List.getD_eq_getElem?_getD,List.getElem?_eq_getElem hlt];rfl
  obtain ⟨hb,ho,gcs,ge,rfl,hG,hGl,hGv⟩:=hS.get _ _ hg
  have hGn:=hd _ _ hG
  repeat (first|((with_reducible apply RS.load1B);(iterate 3 exact rfl);exact hG;exact hGn;exact take_nth (j:=0) hGv rfl)|refine Ya ?_|((with_reducible apply RS.maxI);iterate 4 exact rfl)|refine Yi ?_|((with_reducible apply (RS.appendRow (w:=intW) (l0:=rowAt s.sp f.slots i) (q:=spAt s.sp f.slots (i+1))));(iterate 11 exact rfl);exact Nat.le_of_ble_eq_true rfl;exact fun _=>rfl;exact rfl;(rw [rowAt_len];omega);(rw [rowAt_len];omega))|refine Y19 ?_|refine Y3 ?_|refine Yd ?_|refine Yt ?_|refine Y7 ?_|refine Y4 ?_|refine Y0 ?_|refine Ye ?_|refine Y1 ?_|refine Y5 ?_)
  exact roundP_n (i+1) [0,1,2,3,4,5,6,7,10] rfl rfl ⟨hE,by omega⟩ (by omega) (by (refine FitL.mk ?_ ?_ ?_ ?_<;>(repeat' (first|exact trivial|exact rfl|(refine AllB.opt rfl rfl ?_)|apply And.intro));done))
 ·have hni:i=f.slots.length:=by omega
  subst hni
  repeat (first|((with_reducible apply RS.binFit);(iterate 5 exact rfl);(dsimp only;omega))|((with_reducible apply (RS.callE [0,1,2,3,4,7,6,8] [0,3,4,5,6]));(iterate 2 exact rfl);exact hbl;(iterate 2 exact rfl);exact ⟨rfl,rfl,rfl,rfl,rfl,fr_set (regsS_len hm hal),rfl,rfl,trivial⟩;intro π2 hπ2;rw [← hπ2 0 (by decide) (keepE rfl)])|refine Yj ?_|refine Y2 ?_|refine Yu ?_|refine Y7 ?_|refine Y4 ?_|refine Y0 ?_|(with_reducible first|apply W.seq|apply W.exit|apply W.ret|apply W.skip|apply thenK_n|apply thenK_e|apply roundP_e)|refine Y1 ?_|refine Y6 ?_|refine Yl ?_)
  exact endsK_ret _ (.cons (.tmp rfl) .nil) (by (refine AtE.mk [0,1,2,3,4,5] rfl rfl rfl ?_ ?_ rfl<;>(repeat' (first|exact trivial|exact rfl|exact (hπ2 _ (by decide) (keepE rfl)).trans (hE.get (by decide))|apply And.intro));done))
def runIns (ins:RunS→List Int→InsS→RunS × List Int):List InsS→RunS→List Int→RunS × List Int
 | [],s,regs=>(s,regs)
 | x::l,s,regs=>if (ins s regs x).1.fin=0 then runIns ins l (ins s regs x).1 (ins s regs x).2 else ins s regs x
def leakB (yes:Bool):LeakS:=⟨1,if yes=true then 1 else 0,0⟩
def blocksS (ins:RunS→List Int→InsS→RunS × List Int) (f:FuncS):Nat→Int→RunS→List Int→Int × RunS × List Int
 | 0,_,s,regs=>(0,s,regs)
 | k+1,bi,s,regs =>
  if s.fin=0 then
   match f.blocks[bi.toNat]? with
   | none=>(0,s,regs)
   | some b =>
    if (runIns ins b.ins s regs).1.fin=0 then
     if (stepS (runIns ins b.ins s regs).1).fin=0 then
      if b.term.kind=3 then (argS (runIns ins b.ins s regs).2 b.term.a,stepS (runIns ins b.ins s regs).1,(runIns ins b.ins s regs).2)
      else if b.term.kind=1 then blocksS ins f k b.term.goto (stepS (runIns ins b.ins s regs).1) (runIns ins b.ins s regs).2
      else if holdsS b.term.op (argS (runIns ins b.ins s regs).2 b.term.a) (argS (runIns ins b.ins s regs).2 b.term.b)=true then blocksS ins f k b.term.goto (leakS (stepS (runIns ins b.ins s regs).1) (leakB true)) (runIns ins b.ins s regs).2
      else blocksS ins f k b.term.els (leakS (stepS (runIns ins b.ins s regs).1) (leakB false)) (runIns ins b.ins s regs).2
     else (0,stepS (runIns ins b.ins s regs).1,(runIns ins b.ins s regs).2)
    else (0,(runIns ins b.ins s regs).1,(runIns ins b.ins s regs).2)
  else (0,s,regs)
structure Kept (s s':RunS):Prop where
 fuel:s'.fuel=s.fuel
 steps:s.steps≤s'.steps
 deep:(s'.deep=s.deep∧(¬ s.fin=0→¬ s'.fin=0))∨(s.fin=0∧¬ s'.fin=0∧s'.deep=s.deep+1)
 sp:s'.sp=s.sp
 stack:s'.stack.length=s.stack.length
 data:s'.data.length=s.data.length
theorem Kept.refl (s:RunS):Kept s s:=⟨rfl,by omega,.inl ⟨rfl,id⟩,rfl,rfl,rfl⟩
theorem Kept.trans {a b c:RunS} (h:Kept a b) (g:Kept b c):Kept a c:=⟨g.fuel.trans h.fuel,by have:=h.steps;have:=g.steps;omega,by
 rcases h.deep with ⟨h1,h2⟩|⟨h1,h2,h3⟩<;>rcases g.deep with ⟨g1,g2⟩|⟨g1,g2,g3⟩
 ·exact .inl ⟨g1.trans h1,fun h=>g2 (h2 h)⟩
 ·exact .inr ⟨Decidable.byContradiction fun hc=>h2 hc g1,g2,by rw [g3,h1]⟩
 ·exact .inr ⟨h1,g2 h2,by rw [g1,h3]⟩
 ·exact absurd g1 h2,g.sp.trans h.sp,g.stack.trans h.stack,g.data.trans h.data⟩
theorem stepS_kept (s:RunS):Kept s (stepS s):=by
 unfold stepS
 split
 ·split
  ·exact ⟨rfl,by show s.steps≤s.steps;omega,.inl ⟨rfl,fun _=>by show ¬ (42:Int)=0;omega⟩,rfl,rfl,rfl⟩
  ·exact ⟨rfl,by show s.steps≤s.steps+1;omega,.inl ⟨rfl,id⟩,rfl,rfl,rfl⟩
 ·exact Kept.refl s
theorem leakS_kept (s:RunS) (q:LeakS):Kept s (leakS s q):=⟨rfl,by show s.steps≤s.steps;omega,.inl ⟨rfl,id⟩,rfl,rfl,rfl⟩
theorem stopS_kept (s:RunS) (e:Int) (he:¬ e=0):Kept s (stopS s e):=by
 unfold stopS
 split
 ·exact ⟨rfl,by show s.steps≤s.steps;omega,.inl ⟨rfl,fun _=>he⟩,rfl,rfl,rfl⟩
 ·exact Kept.refl s
theorem stepS_more {s:RunS} (h:(stepS s).fin=0):(stepS s).steps=s.steps+1∧s.fin=0∧s.steps < s.fuel:=by
 unfold stepS at h ⊢
 split at h
 ·split at h
  ·exact absurd (show (42:Int)=0 from h) (by decide)
  ·rw [if_pos ‹_›,if_neg ‹_›];exact ⟨rfl,‹_›,by omega⟩
 ·exact absurd h ‹_›
structure Good (f:FuncS) (s:RunS) (regs:List Int):Prop where
 inv:s.inv
 len:(regs.length:Int)=f.regs
 fit:∀ r∈regs,fitI r
structure InsTE (B:Hp) (pb fb fo:Nat) (at_:List Int) (f:FuncS) (okS:RunS→Prop) (ins:RunS→List Int→InsS→RunS × List Int) (x:InsS):Prop where
 te:∀ s regs,Good f s regs→okS s→∀ xb xo xcs xe A c,B.m xb=some ⟨⟨xcs⟩,xe⟩→xo+12≤xcs.length→takeV xo 12 xcs=insC x A c→SlAt B A 2 x.args argR →
  TE Tryd.prog 92 B 8 [0,3,4,5,6] (fun π=>[.pointer (some ⟨π 0,0,none⟩),.pointer (some ⟨π 5,0,none⟩),.pointer (some ⟨xb,xo,none⟩)]) (frL pb fb fo s regs at_) (.bool ((ins s regs x).1.fin == 0)) (frL pb fb fo (ins s regs x).1 (ins s regs x).2 at_)
 good:∀ s regs,Good f s regs→okS s→Good f (ins s regs x).1 (ins s regs x).2
 kept:∀ s regs,Good f s regs→okS s→Kept s (ins s regs x).1
set_option maxHeartbeats 8000000 in
set_option maxRecDepth 100000 in
theorem blocks_te (B:Hp) (hd:∀ i b,B.m i=some b→i < B.n) (pb:Nat) (hpb:pb < B.n) (fb fo:Nat) (f:FuncS) (fcs:List Value) (fe:TypeId) (F1:Option Addr) (c1:Nat) (F2:Option Addr) (c2:Nat) (F3:Option Addr) (c3:Nat) (hF:B.m fb=some ⟨⟨fcs⟩,fe⟩) (hFn:fb < B.n) (hFv:takeV fo 6 fcs=funcC f F1 c1 F2 c2 F3 c3) (hfr:f.regs≤1000000000)
 (hBs:SlAt B F3 9 f.blocks (blockR B)) (at_:List Int) (okS:RunS→Prop) (hok:∀ s s',okS s→Kept s s'→okS s') (ins:RunS→List Int→InsS→RunS × List Int) (hins:∀ b∈f.blocks,∀ x∈b.ins,InsTE B pb fb fo at_ f okS ins x) (hends:∀ b∈f.blocks,endsS f b.term=true) (hil:∀ b∈f.blocks,b.ins.length≤1000000000) (hb0:0 < f.blocks.length)
 (k:Nat) (s:RunS) (regs:List Int) (hg:Good f s regs) (hos:okS s) (hk:s.fuel - s.steps < k):BlocksTE B pb fb fo s regs at_ (blocksS ins f k 0 s regs):=by
 unfold BlocksTE
 generalize hR0:blocksS ins f k 0 s regs=R
 refine TE.intro (fn:=Tryd.f78) (c:=(Tryd.f78.body.getD .skip)) Tryd.func78 (by kernel_rfl) Tryd.ntmps78 (fun π=>by kernel_rfl) (fun π=>⟨⟨_,rfl⟩,⟨_,rfl⟩,⟨_,rfl⟩,⟨_,rfl⟩,⟨_,rfl⟩,trivial⟩) (fr_par _ _ _ hpb hFn (by omega)) (by simp) fun π=>?_
 conv=>arg 2;whnf
 repeat (first|refine Y15 ?_|refine Y0 ?_|refine Y1e ?_|refine Y1 ?_)
 refine W.loopP (X:=Nat × Int × RunS × List Int) (fun π y=>[(0,.pointer (some ⟨π 0,0,none⟩)),(1,.pointer (some ⟨π 5,0,none⟩)),(5,.int .i64 y.2.1)]) (fun _=>B) (fun π y=>frL pb fb fo y.2.2.1 y.2.2.2 at_ π) (fun π' y=>EqK π' π [0,3,4,5,6]∧Good f y.2.2.1 y.2.2.2∧okS y.2.2.1∧(0≤y.2.1∧y.2.1 < f.blocks.length)∧y.2.2.1.fuel - y.2.2.1.steps < y.1∧blocksS ins f y.1 y.2.1 y.2.2.1 y.2.2.2=R) (fun y=>y.1) [0,1,2,3,4,5,6,7] (k,0,s,regs) ⟨⟨rfl,rfl,rfl,rfl,rfl,trivial⟩,hg,hos,⟨Int.le_refl _,by show (0:Int) < _;omega⟩,hk,hR0⟩ (by (refine FitL.mk ?_ ?_ ?_ ?_<;>(repeat' (first|exact trivial|exact rfl|(refine AllB.opt rfl rfl ?_)|apply And.intro));done)) ?_
 rintro π' ⟨k',bi,s',regs'⟩ ⟨hE,hg',hos',hbi,hk',hR⟩
 dsimp only at hg' hos' hbi hk' hR ⊢
 cases k' with
 | zero=>have:=hg'.inv.steps;omega
 | succ k' =>
 by_cases hf:s'.fin=0
 ·obtain ⟨b,hb⟩:∃ g,f.blocks[bi.toNat]?=some g:=⟨_,List.getElem?_eq_getElem (by omega)⟩
  have hbm:=List.mem_of_getElem? hb
  obtain ⟨bb,bo,bcs,be,rfl,hB,hBl,BA,bc,hBv,hBi⟩:=hBs.get _ _ hb
  have hBn:=hd _ _ hB
  have hbl:=hil b hbm
  rw [blocksS,if_pos hf,hb] at hR
  dsimp only at hR
  have hft:(s'.fin == 0)=true:=by simpa using hf
  repeat (first|((with_reducible apply W.condT);kernel_rfl;(refine congrArg (fun z=>some (Value.bool z)) (?_:_=true);assumption))|refine Yw ?_|((with_reducible apply RS.load1B);(iterate 3 exact rfl);first|exact hF;exact hFn;exact take_nth (j:=5) hFv rfl|exact hB;exact hBn;exact take_nth (j:=0) hBv rfl)|((with_reducible apply RS.indexAddrS);(iterate 4 exact rfl);exact (Int.toNat_of_nonneg hbi.1).symm;omega)|refine Yj ?_|refine Y7 ?_|refine Y0 ?_|refine Y1y ?_|refine Y1 ?_)
  refine W.loopP (X:=Nat × RunS × List Int) (fun π y=>[(0,.pointer (some ⟨π 0,0,none⟩)),(1,.pointer (some ⟨π 5,0,none⟩)),(6,.pointer (some ⟨bb,bo+bi.toNat * 9,none⟩)),(26,.int .i64 b.ins.length),(27,.int .i64 y.1)]) (fun _=>B) (fun π y=>frL pb fb fo y.2.1 y.2.2 at_ π) (fun π'' y=>EqK π'' π [0,3,4,5,6]∧Good f y.2.1 y.2.2∧okS y.2.1∧Kept s' y.2.1∧y.2.1.fin=0∧y.1≤b.ins.length∧runIns ins (b.ins.drop y.1) y.2.1 y.2.2=runIns ins b.ins s' regs') (fun y=>b.ins.length - y.1) [0,1,2,3,4,5,6,7] (0,s',regs') ⟨hE,hg',hos',Kept.refl _,hf,Nat.zero_le _,rfl⟩ (by (refine FitL.mk ?_ ?_ ?_ ?_<;>(repeat' (first|exact trivial|exact rfl|(refine AllB.opt rfl rfl ?_)|apply And.intro));done)) ?_
  rintro π'' ⟨i,s2,regs2⟩ ⟨hE2,hg2,hos2,hkp,hf2,hi,hR2⟩
  dsimp only at hg2 hos2 hkp hf2 hi hR2 ⊢
  have q2:∀ j,j∈[0,3,4,5,6]→π'' j=π j:=fun j hj=>hE2.get hj
  by_cases hlt:i < b.ins.length
  ·obtain ⟨x,hxi⟩:∃ g,b.ins[i]?=some g:=⟨_,List.getElem?_eq_getElem hlt⟩
   obtain ⟨xb,xo,xcs,xe,rfl,hX,hXl,A,c,hXv,hXa⟩:=hBi.get _ _ hxi
   have hI:=hins b hbm x (List.mem_of_getElem? hxi)
   have hx:=hI.te s2 regs2 hg2 hos2 xb (xo+i * 12) xcs xe A c hX hXl hXv hXa
   rw [drop_get hxi,runIns] at hR2
   by_cases hf3:(ins s2 regs2 x).1.fin=0
   ·have hft3:(!((ins s2 regs2 x).1.fin == 0))=false:=by simpa using hf3
    rw [if_pos hf3] at hR2
    repeat (first|((with_reducible apply W.condF);kernel_rfl;(refine congrArg (fun z=>some (Value.bool z)) (?_:_=false);assumption))|refine Y4t ?_|refine Ya ?_|((with_reducible apply (RS.callE [0,1,2,3,4,5,6,7] [0,3,4,5,6]));(iterate 2 exact rfl);exact hx;(iterate 2 exact rfl);exact ⟨rfl,rfl,rfl,rfl,rfl,rfl,rfl,rfl,trivial⟩;intro π2 hπ2;rw [← hπ2 0 (by decide) (keepE rfl),← hπ2 5 (by decide) (keepE rfl)])|refine Ys ?_|refine Y3 ?_|refine Yd ?_|refine Y0 ?_|refine Ye ?_|refine Y1 ?_|refine Y5 ?_)
    exact roundP_n (i+1,(ins s2 regs2 x).1,(ins s2 regs2 x).2) [0,1,2,3,4,5,6,7] rfl rfl ⟨by (repeat' (first|exact trivial|exact (hπ2 _ (by decide) (keepE rfl)).trans (q2 _ (by simp))|apply And.intro)),hI.good _ _ hg2 hos2,hok _ _ hos2 (hI.kept _ _ hg2 hos2),hkp.trans (hI.kept _ _ hg2 hos2),hf3,by show i+1≤_;omega,hR2⟩ (by show _ - (i+1) < _ - i;omega) (by (refine FitL.mk ?_ ?_ ?_ ?_<;>(repeat' (first|exact trivial|exact rfl|(refine AllB.opt rfl rfl ?_)|apply And.intro));done))
   ·have hft3:(!((ins s2 regs2 x).1.fin == 0))=true:=by simpa using hf3
    rw [if_neg hf3] at hR2
    rw [← hR2,if_neg hf3] at hR
    rw [← hR]
    repeat (first|((with_reducible apply W.condT);kernel_rfl;(refine congrArg (fun z=>some (Value.bool z)) (?_:_=true);assumption))|refine Y4t ?_|refine Ya ?_|((with_reducible apply (RS.callE [0,1,2,3,4,5,6,7] [0,3,4,5,6]));(iterate 2 exact rfl);exact hx;(iterate 2 exact rfl);exact ⟨rfl,rfl,rfl,rfl,rfl,rfl,rfl,rfl,trivial⟩;intro π2 hπ2;rw [← hπ2 0 (by decide) (keepE rfl),← hπ2 5 (by decide) (keepE rfl)])|refine Ys ?_|refine Y3 ?_|refine Y0 ?_|(with_reducible first|apply W.seq|apply W.block|apply W.ret|apply W.skip|apply thenK_n|apply thenK_r|apply blockK_r|apply roundP_r)|refine Y1 ?_|refine Y5 ?_)
    exact endsK_ret _ (.cons (.tmp rfl) .nil) (by (refine AtE.mk [0,1,2,3,4,5,6,7] rfl rfl rfl ?_ ?_ rfl<;>(repeat' (first|exact trivial|exact rfl|exact (hπ2 _ (by decide) (keepE rfl)).trans (q2 _ (by simp))|apply And.intro));done))
  ·have hni:i=b.ins.length:=by omega
   subst hni
   rw [List.drop_length,runIns] at hR2
   rw [← hR2] at hR
   dsimp only at hR
   rw [if_pos hf2] at hR
   have hs2:0≤s2.steps∧s2.steps≤1000000000:=⟨hg2.inv.steps.1,by have:=hg2.inv.steps.2;have:=hg2.inv.fuel;omega⟩
   have hrl2:regs2.length≤1000000000:=by have:=hg2.len;omega
   have hi2:=stepS_inv hg2.inv
   have hlk:(stepS s2).leaks.length≤1000000:=by have:=hi2.leaks;have:=hi2.steps;have:=hi2.fuel;omega
   have hkp3:=hkp.trans (stepS_kept s2)
   have hos3:=hok _ _ hos2 (stepS_kept s2)
   by_cases hf4:(stepS s2).fin=0
   ·have hft4:(!((stepS s2).fin == 0))=false:=by simpa using hf4
    rw [if_pos hf4] at hR
    have hen:=hends b hbm
    unfold endsS at hen
    simp only [Bool.and_eq_true,decide_eq_true_eq] at hen
    obtain ⟨⟨⟨⟨e1,e2⟩,e3⟩,e4⟩,e5⟩:=hen
    have hroom:=stepS_room hg2.inv hf4
    have hmore:=(stepS_more hf4).1
    have hfu:=hkp3.fuel
    have hst3:=hkp.steps
    by_cases hk3:b.term.kind=3
    ·rw [if_pos hk3] at hR
     rw [← hR]
     repeat (first|((with_reducible apply W.condF);kernel_rfl;(refine congrArg (fun z=>some (Value.bool z)) (?_:_=false);assumption))|refine Y1s ?_|refine Y34 ?_|refine Y32 ?_|refine Ys ?_|refine Y3 ?_|refine Y2 ?_|refine Y7 ?_|refine Y8 ?_|refine Y4 ?_|refine Yf ?_|refine Y0 ?_|(with_reducible first|apply W.seq|apply W.block|apply W.exit|apply W.ret|apply W.skip|apply thenK_n|apply thenK_e|apply thenK_r|apply blockK_r|apply roundP_e|apply roundP_r)|refine Y1 ?_|refine Y5 ?_|refine Y6 ?_|refine Yl ?_)
     exact endsK_ret _ (.cons (.tmp rfl) .nil) (by (refine AtE.mk [0,1,2,3,4,5,6,7] rfl rfl rfl ?_ ?_ rfl<;>(repeat' (first|exact trivial|exact rfl|exact q2 _ (by simp)|apply And.intro));done))
    rw [if_neg hk3] at hR
    by_cases hk1:b.term.kind=1
    ·rw [if_pos hk1] at hR
     have et:0≤b.term.goto∧b.term.goto < f.blocks.length:=by
      unfold nextS at e5;rw [if_pos hk1] at e5
      simpa [targetsS] using e5
     repeat (first|((with_reducible apply W.condF);kernel_rfl;(refine congrArg (fun z=>some (Value.bool z)) (?_:_=false);assumption))|refine Y1s ?_|refine Y34 ?_|refine Ys ?_|refine Y3 ?_|refine Y2 ?_|refine Y7 ?_|refine Y4 ?_|refine Yf ?_|refine Y0 ?_|refine Y4e ?_|refine Y1 ?_|refine Y5 ?_|refine Y6 ?_|refine Yl ?_)
     exact roundP_n (k',b.term.goto,stepS s2,regs2) [0,1,2,3,4,5,6,7] rfl rfl ⟨hE2,⟨hi2,hg2.len,hg2.fit⟩,hos3,et,by show (stepS s2).fuel - (stepS s2).steps < _;omega,hR⟩ (Nat.lt_succ_self _) (by (refine FitL.mk ?_ ?_ ?_ ?_<;>(repeat' (first|exact trivial|exact rfl|(refine AllB.opt rfl rfl ?_)|apply And.intro));done))
    ·rw [if_neg hk1] at hR
     have et:(0≤b.term.goto∧b.term.goto < f.blocks.length)∧0≤b.term.els∧b.term.els < f.blocks.length:=by
      unfold nextS at e5;rw [if_neg hk1,if_pos (by omega)] at e5
      simpa [targetsS] using e5
     repeat' (first|((with_reducible apply W.condF);kernel_rfl;(refine congrArg (fun z=>some (Value.bool z)) (?_:_=false);assumption))|refine Y1s ?_|refine Y34 ?_|refine Y32 ?_|((with_reducible apply RS.callR false [5,6]);(iterate 3 exact rfl);exact fun H hH=>arg_tf b.term.b regs2 _ _ _ H hrl2 (hH.l 5 rfl (by simp)) rfl (hH.l 6 rfl (by simp));exact Nm_free (by simp))|((with_reducible apply RS.callP);(iterate 3 exact rfl);exact fun H=>(holds_tf _ _ _ H);exact Nm_free (by simp))|refine Yi ?_|((with_reducible apply (RS.appendRow (w:=leakW) (l0:=(stepS s2).leaks) (q:=leakB true)));(iterate 11 exact rfl);exact Nat.le_of_ble_eq_true rfl;exact fun _=>rfl;exact rfl;omega;omega)|((with_reducible apply (RS.appendRow (w:=leakW) (l0:=(stepS s2).leaks) (q:=leakB false)));(iterate 11 exact rfl);exact Nat.le_of_ble_eq_true rfl;exact fun _=>rfl;exact rfl;omega;omega)|refine Ys ?_|refine Y2 ?_|refine Y7 ?_|refine Y8 ?_|refine Y4 ?_|refine Yf ?_|refine Y11 ?_|refine Y0 ?_|refine Y4e ?_|refine Y1 ?_|refine Y6 ?_|refine Yl ?_|((refine YD ?_ ?_)<;>intro _)|((refine YG ?_ ?_)<;>intro _)|((refine YC ?_ ?_)<;>intro _)|((refine YN ?_ ?_)<;>intro _))
     ·rw [if_pos ‹_›] at hR
      exact roundP_n (k',b.term.goto,leakS (stepS s2) (leakB true),regs2) [0,1,11,3,4,5,6,7] rfl rfl ⟨hE2,⟨leakS_inv hi2 hroom.1 _,hg2.len,hg2.fit⟩,hok _ _ hos3 (leakS_kept _ _),et.1,by show (stepS s2).fuel - (stepS s2).steps < _;omega,hR⟩ (Nat.lt_succ_self _) (by (refine FitL.mk ?_ ?_ ?_ ?_<;>(repeat' (first|exact trivial|exact rfl|(refine AllB.opt rfl rfl ?_)|apply And.intro));done))
     ·rw [if_neg (by simp [*])] at hR
      exact roundP_n (k',b.term.els,leakS (stepS s2) (leakB false),regs2) [0,1,11,3,4,5,6,7] rfl rfl ⟨hE2,⟨leakS_inv hi2 hroom.1 _,hg2.len,hg2.fit⟩,hok _ _ hos3 (leakS_kept _ _),et.2,by show (stepS s2).fuel - (stepS s2).steps < _;omega,hR⟩ (Nat.lt_succ_self _) (by (refine FitL.mk ?_ ?_ ?_ ?_<;>(repeat' (first|exact trivial|exact rfl|(refine AllB.opt rfl rfl ?_)|apply And.intro));done))
   ·have hft4:(!((stepS s2).fin == 0))=true:=by simpa using hf4
    rw [if_neg hf4] at hR
    rw [← hR]
    repeat (first|((with_reducible apply W.condT);kernel_rfl;(refine congrArg (fun z=>some (Value.bool z)) (?_:_=true);assumption))|refine Y1s ?_|refine Y4f ?_|refine Y2 ?_|refine Y0 ?_|(with_reducible first|apply W.seq|apply W.exit|apply W.ret|apply thenK_n|apply thenK_e|apply thenK_r|apply blockK_r|apply roundP_e|apply roundP_r)|refine Y1 ?_|refine Y6 ?_|refine Yl ?_)
    exact endsK_ret _ (.cons (.tmp rfl) .nil) (by (refine AtE.mk [0,1,2,3,4,5,6,7] rfl rfl rfl ?_ ?_ rfl<;>(repeat' (first|exact trivial|exact rfl|exact q2 _ (by simp)|apply And.intro));done))
 ·have hft:(s'.fin == 0)=false:=by simpa using hf
  rw [blocksS,if_neg hf] at hR
  rw [← hR]
  repeat (first|((with_reducible apply W.condF);kernel_rfl;(refine congrArg (fun z=>some (Value.bool z)) (?_:_=false);assumption))|refine Yw ?_|refine Yh ?_|refine Y0 ?_|refine Y27 ?_|refine Y1 ?_|refine Yl ?_)
  have q:∀ j,j∈[0,3,4,5,6]→π' j=π j:=fun j hj=>hE.get hj
  exact endsK_ret _ (.cons (.tmp rfl) .nil) (by (refine AtE.mk [0,1,2,3,4,5,6,7] rfl rfl rfl ?_ ?_ rfl<;>(repeat' (first|exact trivial|exact rfl|exact q _ (by simp)|apply And.intro));done))
set_option maxHeartbeats 4000000 in
set_option maxRecDepth 100000 in
theorem callover_te (B:Hp) (pb:Nat) (hpb:pb < B.n) (s:RunS) (hdp:100 < s.deep+1∧s.deep≤1000) (n:Int) (args:List Int) :
 TE Tryd.prog 57 B 6 [0,3,4] (fun π=>[.pointer (some ⟨π 0,0,none⟩),.int .i64 n,rowVl 1 (π 5) args]) (caL pb s args) (.int .i64 0) (caL pb (stopS { s with deep:=s.deep+1 } 45) args):=by
 refine TE.intro (fn:=Tryd.f57) (c:=(Tryd.f57.body.getD .skip)) Tryd.func57 (by kernel_rfl) Tryd.ntmps57 (fun π=>by kernel_rfl) (fun π=>⟨⟨_,rfl⟩,⟨_,rfl⟩,⟨_,rfl⟩,trivial⟩) (ca_par _ _ hpb (by omega)) (by simp) fun π=>?_
 conv=>arg 2;whnf
 repeat (first|((with_reducible apply (RS.callO (vs:=[]) [0,1,2,3,4] 0));(iterate 2 exact rfl);exact stop_to _ pb hpb { s with deep:=s.deep+1 } 45;(iterate 2 exact rfl);exact ⟨rfl,rfl,rfl,rfl,rfl,trivial⟩;exact stop_fresh _ _ _ _)|refine Y19 ?_|refine Y3 ?_|refine Yu ?_|refine Y7 ?_|refine Y4 ?_|refine Y0 ?_|refine Y1z ?_|refine Y1 ?_|refine Y5 ?_)
 exact endsK_ret _ (.cons (.tmp rfl) .nil) (by (refine AtE.mk [0,1,2,3,4,5] rfl rfl rfl ?_ ?_ rfl<;>(repeat' (first|exact trivial|exact rfl|apply And.intro));done))
end Go.Proofs.YtjhloakacicdiaaDoor
