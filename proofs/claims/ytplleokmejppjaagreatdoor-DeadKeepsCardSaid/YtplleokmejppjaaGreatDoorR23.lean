/- Contracts of functions that the law reaches -/
import Derived.Shelf.LaysM
import Derived.Shelf.Strconv.Itoa0
import Derived.Shelf.Strconv.Itoa1
import Derived.Shelf.Strconv.Itoa2
import Derived.Shelf.Strconv.Itoa3
import Derived.Shelf.Strconv.Itoa4
import Derived.Shelf.Strings.Builder1
import Derived.Shelf.Strings.Builder2
import Derived.Shelf.Strings.Builder2Cap
import Derived.Shelf.Strings.OnBuilder
import Derived.Test.YtplleokmejppjaaGreatDoorProg
import Derived.Test.YtplleokmejppjaaGreatDoorR11
import Derived.Test.YtplleokmejppjaaGreatDoorR22
set_option linter.all false
set_option maxHeartbeats 9999999
set_option maxRecDepth 100000
namespace Go.Proofs
open Go.Shelf
def Tryz.asu:Go.Shelf.Ren:=⟨fun|169=>54|n=>n,fun|70=>102|9=>9|0=>0|72=>104|37=>26|127=>145|3=>3|5=>5|n=>n,fun|n=>n⟩
def Tryz.aGa:Go.Proofs.Lays.n169 Tryz.prog Tryz.asu:={
 mixed:=ax
 f169:=Tryz.func54.trans (hq some ax)
 t0:=Tryz.underlying0
 a0:=Tryz.isAgg0
 z0:=Tryz.sizeOf0
 v0:=Tryz.zeroValue0
 t3:=Tryz.underlying3
 a3:=Tryz.isAgg3
 z3:=Tryz.sizeOf3
 v3:=Tryz.zeroValue3
 t9:=Tryz.underlying9
 a9:=Tryz.isAgg9
 z9:=Tryz.sizeOf9
 v9:=Tryz.zeroValue9
 t37:=Tryz.underlying26
 a37:=Tryz.isAgg26
 z37:=Tryz.sizeOf26
 v37:=Tryz.zeroValue26
 t70:=Tryz.underlying102
 a70:=Tryz.isAgg102
 z70:=Tryz.sizeOf102
 v70:=Tryz.zeroValue102
 t72:=Tryz.underlying104
 a72:=Tryz.isAgg104
 z72:=Tryz.sizeOf104
 v72:=Tryz.zeroValue104
 t127:=Tryz.underlying145
 a127:=Tryz.isAgg145
 z127:=Tryz.sizeOf145
 v127:=Tryz.zeroValue145}
def Tryz.aGb:Builder.Extra Tryz.prog Tryz.asu:={
 sizeBuilder:=ax
 liesBuilder:=ax
 t5:=Tryz.underlying5
 a5:=Tryz.isAgg5
 z5:=Tryz.sizeOf5
 v5:=Tryz.zeroValue5
 infoByte:=ax
 cellsByte:=ax
 sizeByte:=ax
 neB5:=by decide}
open Go.RowKit in
def Tryz.Builder_String_any B b l w(h:Lib.IsBuilder 104 5 B b (Lib.byteCells l) w)(a:B<=w.heap.size):
 Calls Tryz.prog 54 #[.pointer (some ⟨b,0,none⟩)] w λe w'=>e=.returned (.string ⟨l.toArray⟩)/\Below B w w':=Any.Builder_String_any Tryz.aGa Tryz.aGb B b l w h a
open Go.RowKit in
def Tryz.asv:Go.Shelf.Ren:=⟨fun|165=>52|240=>76|241=>77|276=>100|277=>101|n=>n,fun|70=>102|3=>3|0=>0|4=>4|9=>9|20=>20|72=>104|37=>26|164=>171|5=>5|n=>n,fun|n=>n⟩
def Tryz.aGc:Go.Proofs.Lays.n165 Tryz.prog Tryz.asv:={
 mixed:=ax
 f165:=Tryz.func52.trans (hq some ax)
 f240:=Tryz.func76.trans (hq some ax)
 f241:=Tryz.func77.trans (hq some ax)
 f276:=Tryz.func100.trans (hq some ax)
 f277:=Tryz.func101.trans (hq some ax)
 t0:=Tryz.underlying0
 a0:=Tryz.isAgg0
 z0:=Tryz.sizeOf0
 v0:=Tryz.zeroValue0
 t3:=Tryz.underlying3
 a3:=Tryz.isAgg3
 z3:=Tryz.sizeOf3
 v3:=Tryz.zeroValue3
 t4:=Tryz.underlying4
 a4:=Tryz.isAgg4
 z4:=Tryz.sizeOf4
 v4:=Tryz.zeroValue4
 t9:=Tryz.underlying9
 a9:=Tryz.isAgg9
 z9:=Tryz.sizeOf9
 v9:=Tryz.zeroValue9
 t20:=Tryz.underlying20
 a20:=Tryz.isAgg20
 z20:=Tryz.sizeOf20
 v20:=Tryz.zeroValue20
 t37:=Tryz.underlying26
 a37:=Tryz.isAgg26
 z37:=Tryz.sizeOf26
 v37:=Tryz.zeroValue26
 t70:=Tryz.underlying102
 a70:=Tryz.isAgg102
 z70:=Tryz.sizeOf102
 v70:=Tryz.zeroValue102
 t72:=Tryz.underlying104
 a72:=Tryz.isAgg104
 z72:=Tryz.sizeOf104
 v72:=Tryz.zeroValue104
 t164:=Tryz.underlying171
 a164:=Tryz.isAgg171
 z164:=Tryz.sizeOf171
 v164:=Tryz.zeroValue171}
def Tryz.aGd:Builder.Extra Tryz.prog Tryz.asv:={
 sizeBuilder:=ax
 liesBuilder:=ax
 t5:=Tryz.underlying5
 a5:=Tryz.isAgg5
 z5:=Tryz.sizeOf5
 v5:=Tryz.zeroValue5
 infoByte:=ax
 cellsByte:=ax
 sizeByte:=ax
 neB5:=by decide}
open Go.RowKit in
def Tryz.asw:Go.Shelf.Ren:=⟨fun|156=>33|165=>52|166=>53|169=>54|240=>76|241=>77|276=>100|277=>101|n=>n,fun|31=>80|9=>9|3=>3|4=>4|0=>0|20=>20|72=>104|76=>108|70=>102|37=>26|75=>107|127=>145|164=>171|5=>5|80=>59|n=>n,fun|n=>n⟩
def Tryz.YL:Go.Proofs.Lays.n156 Tryz.prog Tryz.asw:={
 mixed:=ax
 f156:=Tryz.func33.trans (hq some ax)
 f165:=Tryz.func52.trans (hq some ax)
 f166:=Tryz.func53.trans (hq some ax)
 f169:=Tryz.func54.trans (hq some ax)
 f240:=Tryz.func76.trans (hq some ax)
 f241:=Tryz.func77.trans (hq some ax)
 f276:=Tryz.func100.trans (hq some ax)
 f277:=Tryz.func101.trans (hq some ax)
 t0:=Tryz.underlying0
 a0:=Tryz.isAgg0
 z0:=Tryz.sizeOf0
 v0:=Tryz.zeroValue0
 t3:=Tryz.underlying3
 a3:=Tryz.isAgg3
 z3:=Tryz.sizeOf3
 v3:=Tryz.zeroValue3
 t4:=Tryz.underlying4
 a4:=Tryz.isAgg4
 z4:=Tryz.sizeOf4
 v4:=Tryz.zeroValue4
 t9:=Tryz.underlying9
 a9:=Tryz.isAgg9
 z9:=Tryz.sizeOf9
 v9:=Tryz.zeroValue9
 t20:=Tryz.underlying20
 a20:=Tryz.isAgg20
 z20:=Tryz.sizeOf20
 v20:=Tryz.zeroValue20
 t31:=Tryz.underlying80
 a31:=Tryz.isAgg80
 z31:=Tryz.sizeOf80
 v31:=Tryz.zeroValue80
 t37:=Tryz.underlying26
 a37:=Tryz.isAgg26
 z37:=Tryz.sizeOf26
 v37:=Tryz.zeroValue26
 t70:=Tryz.underlying102
 a70:=Tryz.isAgg102
 z70:=Tryz.sizeOf102
 v70:=Tryz.zeroValue102
 t72:=Tryz.underlying104
 a72:=Tryz.isAgg104
 z72:=Tryz.sizeOf104
 v72:=Tryz.zeroValue104
 t75:=Tryz.underlying107
 a75:=Tryz.isAgg107
 z75:=Tryz.sizeOf107
 v75:=Tryz.zeroValue107
 t76:=Tryz.underlying108
 a76:=Tryz.isAgg108
 z76:=Tryz.sizeOf108
 v76:=Tryz.zeroValue108
 t127:=Tryz.underlying145
 a127:=Tryz.isAgg145
 z127:=Tryz.sizeOf145
 v127:=Tryz.zeroValue145
 t164:=Tryz.underlying171
 a164:=Tryz.isAgg171
 z164:=Tryz.sizeOf171
 v164:=Tryz.zeroValue171}
def Tryz.Sv:Builder.Extra Tryz.prog Tryz.asw:={
 sizeBuilder:=ax
 liesBuilder:=ax
 t5:=Tryz.underlying5
 a5:=Tryz.isAgg5
 z5:=Tryz.sizeOf5
 v5:=Tryz.zeroValue5
 infoByte:=ax
 cellsByte:=ax
 sizeByte:=ax
 neB5:=by decide}
open Go.RowKit in
def Tryz.strings_Join_none a c c4 w:
 Calls Tryz.prog 33 #[.slice a 0 c,.string c4] w λe w'=>e=.returned (.string ⟨#[]⟩)/\w'=w:=Any.strings_Join_none Tryz.YL Tryz.Sv a c c4 w
open Go.RowKit in
def Tryz.strings_Join a o c(xs:List ByteArray) c4 w(b:∀(j:Nat) x,xs[j]?=some x->w.cell? ⟨a,o+j,none⟩=some (.string x))(g:a<w.heap.size)(i:xs.length<=140737488355328)(f:xs.length<=c)(h:(Lib.join (xs.map (·.data.toList)) c4.data.toList).length<=140737488355328):
 Calls Tryz.prog 33 #[.slice (some ⟨a,o,none⟩) xs.length c,.string c4] w λe w'=>e=.returned (.string ⟨(Lib.join (xs.map (·.data.toList)) c4.data.toList).toArray⟩)/\Below w.heap.size w w':=Any.strings_Join Tryz.YL Tryz.Sv a o c xs c4 w b g i f h
open Go.RowKit in
def Tryz.Builder_Grow_fresh_cap(B b n:Nat)w(c:B<=b)(a:w.heap[b]?=some (.cells #[.pointer none,.slice none 0 0] 104 (0,0)))(f:B<=w.heap.size)(ak:n<=281474976710656):
 Calls Tryz.prog 52 #[.pointer (some ⟨b,0,none⟩),.int .i64 n] w λe w'=>e=.returned (.tuple #[])/\(Lib.BuilderAt 104 5 B b (.pointer (some ⟨b,0,none⟩)) [] w'/\Below B w w')/\∃p cap,w'.cell? ⟨b,1,none⟩=some (.slice p 0 cap)/\n<=cap:=Any.Builder_Grow_fresh_cap Tryz.aGc Tryz.aGd B b n w c a f ak
def Tryz.aGe:Go.Shelf.Ren:=⟨fun|129=>109|n=>n,fun|53=>153|3=>3|4=>4|46=>183|5=>5|9=>9|n=>n,fun|n=>n⟩
def Tryz.aGf:Go.Proofs.Lays.n129 Tryz.prog Tryz.aGe:={
 mixed:=ax
 f129:=Tryz.func109.trans (hq some ax)
 t3:=Tryz.underlying3
 a3:=Tryz.isAgg3
 z3:=Tryz.sizeOf3
 v3:=Tryz.zeroValue3
 t4:=Tryz.underlying4
 a4:=Tryz.isAgg4
 z4:=Tryz.sizeOf4
 v4:=Tryz.zeroValue4
 t5:=Tryz.underlying5
 a5:=Tryz.isAgg5
 z5:=Tryz.sizeOf5
 v5:=Tryz.zeroValue5
 t9:=Tryz.underlying9
 a9:=Tryz.isAgg9
 z9:=Tryz.sizeOf9
 v9:=Tryz.zeroValue9
 t46:=Tryz.underlying183
 a46:=Tryz.isAgg183
 z46:=Tryz.sizeOf183
 v46:=Tryz.zeroValue183
 t53:=Tryz.underlying153
 a53:=Tryz.isAgg153
 z53:=Tryz.sizeOf153
 v53:=Tryz.zeroValue153}
def Tryz.bits_Len64 x w(h0:0<=x)(J:x<=18446744073709551615):
 Calls Tryz.prog 109 #[.int .u64 x] w λe w'=>e=.returned (.int .i64 (Lib.bitLen x.toNat))/\w'=w:=Any.bits_Len64 Tryz.aGf x w h0 J
def Tryz.aGg:Go.Shelf.Ren:=⟨fun|317=>108|n=>n,fun|3=>3|46=>183|n=>n,fun|n=>n⟩
def Tryz.aGh:Go.Proofs.Lays.n317 Tryz.prog Tryz.aGg:={
 mixed:=ax
 f317:=Tryz.func108.trans (hq some ax)
 t3:=Tryz.underlying3
 a3:=Tryz.isAgg3
 z3:=Tryz.sizeOf3
 v3:=Tryz.zeroValue3
 t46:=Tryz.underlying183
 a46:=Tryz.isAgg183
 z46:=Tryz.sizeOf183
 v46:=Tryz.zeroValue183}
open Go.Lib in
def Tryz.internal_strconv_log10Pow2(x:Nat)(h:x<=64)w:
 Calls Tryz.prog 108 #[.int .i64 x] w λe w'=>e=.returned (.int .i64 (Lib.l10 x))/\w'=w:=Any.internal_strconv_log10Pow2 Tryz.aGh x h w
def Tryz.aGi:Go.Shelf.Ren:=⟨fun|318=>110|n=>n,fun|3=>3|4=>4|n=>n,fun|n=>n⟩
def Tryz.aGj:Go.Proofs.Lays.n318 Tryz.prog Tryz.aGi:={
 mixed:=ax
 f318:=Tryz.func110.trans (hq some ax)
 t3:=Tryz.underlying3
 a3:=Tryz.isAgg3
 z3:=Tryz.sizeOf3
 v3:=Tryz.zeroValue3
 t4:=Tryz.underlying4
 a4:=Tryz.isAgg4
 z4:=Tryz.sizeOf4
 v4:=Tryz.zeroValue4}
open Go.Lib in
def Tryz.internal_strconv_bool2_int b w:
 Calls Tryz.prog 110 #[.bool b] w λe w'=>e=.returned (.int .i64 (if b then 1 else 0))/\w'=w:=Any.internal_strconv_bool2_int Tryz.aGj b w
def Tryz.aGk:Go.Shelf.Ren:=⟨fun|283=>96|n=>n,fun|3=>3|9=>9|4=>4|n=>n,fun|n=>n⟩
def Tryz.aGl:Go.Proofs.Lays.n283 Tryz.prog Tryz.aGk:={
 mixed:=ax
 f283:=Tryz.func96.trans (hq some ax)
 t3:=Tryz.underlying3
 a3:=Tryz.isAgg3
 z3:=Tryz.sizeOf3
 v3:=Tryz.zeroValue3
 t4:=Tryz.underlying4
 a4:=Tryz.isAgg4
 z4:=Tryz.sizeOf4
 v4:=Tryz.zeroValue4
 t9:=Tryz.underlying9
 a9:=Tryz.isAgg9
 z9:=Tryz.sizeOf9
 v9:=Tryz.zeroValue9}
open Go.Lib in
def Tryz.internal_strconv_small(i:Nat)(h:i<100)w:
 Calls Tryz.prog 96 #[.int .i64 i] w λe w'=>e=.returned (.string ⟨(Lib.decDigits i).toArray⟩)/\w'=w:=Any.internal_strconv_small Tryz.aGl i h w
end Go.Proofs
namespace Go.Proofs.YtplleokmejppjaaGreatDoor
open Go.Proofs.Tryz
open Go.AH
section
attribute[local irreducible] W ad
def asx{h B H a}(o:cW h B)(aH:cT (λi=>i=a) B H)(b:h.n<=a):cW h H :=
 ⟨bx o.1 aH.1,λi ag=>akn⟩
def aGm off x:(Bp off x).2.2.length=x.2.2.length:=by unfold Bp;split<;>simp
def aGn off x:(Bq off x).2.2.length=x.2.2.length:=by unfold Bq;split<;>simp
def aGo off x:(Br off x).length=x.2.2.length:=by unfold Br;split<;>simp
def asy:∀(k off i u:Nat) (d:List Int),(Bo k off i u d).2.2.length=d.length
 | 0,_,_,_,_=>rfl
 | k+1,off,i,u,d=>by
  rw[Bo];split
  .rw[asy k,ass]
  .rfl
def W7 off N u d:(fmtS off N u d).length=d.length:=by
 rw[fmtS,aGo,aGn,aGm,asy]
def aA7(x:Nat)(aa:x<=18446744073709551615)h:bc prog 109 ⟨[.int .u64 (x:Int)]⟩ h (.int .i64 ((Lib.bitLen x:Nat):Int)) h :=
 bc.of_same aF aF λ_ W _=>by
  have:=Tryz.bits_Len64 (x:Int) W U U;simpa using this
def aA1(x:Nat)(aa:x<=64)h:bc prog 108 ⟨[.int .i64 (x:Int)]⟩ h (.int .i64 ((Lib.l10 x:Nat):Int)) h :=
 bc.of_same aF aF λ_ W _=>Tryz.internal_strconv_log10Pow2 x aa W
def aA9 b h:bc prog 110 ⟨[.bool b]⟩ h (.int .i64 (if b then 1 else 0)) h :=
 bc.of_same aF aF λ_ W _=>Tryz.internal_strconv_bool2_int b W
def aGp(i:Nat)(ag:i<100)h:bc prog 96 ⟨[.int .i64 (i:Int)]⟩ h (.string ⟨(Lib.decDigits i).toArray⟩) h :=
 bc.of_same aF aF λ_ W _=>Tryz.internal_strconv_small i ag W
def GT(h:aV):Prop:=∃e,h.m 1=some ⟨⟨Lib.pow10Tab.map (Value.int .u64)⟩,e⟩
def GT.up{h H}(g:GT h)(hu:∀i b,h.m i=some b->H.m i=some b):GT H:=by
 have⟨e,he⟩:=g;exact⟨e,hu _ _ he⟩
def aGq{m}(hm:m<20):(Lib.pow10Tab.map (Value.int .u64))[0+m*1]?=some (.int .u64 ((10^m:Nat):Int)):=by
 simp[Lib.pow10Tab,ff,iV,gf,ajw hm,iW]
def AU(u:Nat):Nat:=Lib.l10 (Lib.bitLen u)+(if 10^Lib.l10 (Lib.bitLen u)<=u then 1 else 0)
def adO{u}(hu:u<=18446744073709551615):Lib.bitLen u<=64:=Lib.bitLen_le u 64 (b4 _) U
def asz{x}(aa:x<=64):Lib.l10 x<=19:=by unfold Lib.l10;omega
def aGr{u}(hu:u<=18446744073709551615):AU u<=20:=by
 have:=asz (adO hu);unfold AU;split<;>omega
def aAS(u:Nat)(hu:u<=18446744073709551615)h(bf:GT h):bc prog 97 ⟨[.int .u64 (u:Int)]⟩ h (.int .i64 ((AU u:Nat):Int)) h:=by
 have⟨e,c⟩:=bf;refine bc.aO λaq=>?_;have v:=aq _ _ c;have z:=asz (adO hu);have w:=aGq (m:=Lib.l10 (Lib.bitLen u)) U;unfold AU;generalize 10^Lib.l10 (Lib.bitLen u)=t at *;refine bc.rX func97 ntmps97 (λf=>⟨b4 _,aF,λi b I=>⟨f.aO i b I,f.dP i b I⟩⟩) λπ f=>?_;conv=>arg 2;whnf
 by_cases aB:t<=u
 .repeat(first|refine apq ?_|refine apa ?_|refine apw ?_|apply ad.dv;rfl;rfl;rfl;exact c;exact v;exact w|refine uT ?_|refine ov ?_)
  exact cf _ (dt rfl) λaD y=>⟨by rw[au aB];rfl,λj x s=>y.up _ _ s⟩
 .repeat(first|refine apq ?_|refine apa ?_|refine apw ?_|apply ad.dv;rfl;rfl;rfl;exact c;exact v;exact w|refine fi ?_|refine hL ?_|refine jH ?_|refine ov ?_)
  exact cf _ (dt rfl) λaD y=>⟨by rw[ai aB];rfl,λj x s=>y.up _ _ s⟩
def Ow(d:List Int):ByteArray:=⟨(d.map λz=>UInt8.ofNat z.toNat).toArray⟩
def jZ(n:Int):ByteArray :=
 if 0<=n/\n<100 then⟨(Lib.decDigits n.toNat).toArray⟩
 else if n<0 then Ow ((((fmtS 1 (AU n.natAbs) n.natAbs (List.replicate 24 0)).set 0 45).drop 0).take (1+AU n.natAbs))
 else Ow (((fmtS 1 (AU n.natAbs) n.natAbs (List.replicate 24 0)).drop 1).take (AU n.natAbs))
def aGs{n}(h0:-9223372036854775808<=n)(J:n<0):IntKind.u64.wrap (0-IntKind.u64.wrap n)=((n.natAbs:Nat):Int):=by
 simp only[IntKind.wrap,IntKind.signed,IntKind.bits];simp;omega
def aGt{n}(h0:0<=n)(J:n<=9223372036854775807):IntKind.u64.wrap n=((n.natAbs:Nat):Int):=by
 simp only[IntKind.wrap,IntKind.signed,IntKind.bits];simp;omega
def ad.aGu{P an bg rs l ay al h K d ty pos af gd t c x k f k' n}(m:Nat)[hu:ee P t (.int k)][i:ee P c (.int k')](hw:cw an ⟨some d,.convert t c x,ty,pos,af,gd⟩ ⟨ay,al⟩=some true)(aq:Nat.blt d al=true)(aa:Fr.ev ⟨ay,al⟩ x=some (.int f n))(aE:k'.wrap n=(m:Int))(aj:ad P an bg (de h.k false [] (some [])::rs) l ⟨(d,.int k' (m:Int))::ay,al⟩ h K):ad P an bg rs (⟨some d,.convert t c x,ty,pos,af,gd⟩::l) ⟨ay,al⟩ h K:=by
 rw[<-aE] at aj;exact ad.acV hw aq aa aj
def asA n(ak:b8 n) h(bf:GT h):dw prog 75 [.int .i64 n,.int .i64 10] h (λv aw=>v=.string (jZ n)/\cW h aw):=by
 have⟨n0,N⟩:=ak;have M:AU n.natAbs<=20:=aGr U;by_cases aC:0<=n/\n<100
 .have D:∀aD,bc prog 96 ⟨[bm n]⟩ aD (.string ⟨(Lib.decDigits n.toNat).toArray⟩) aD:=λaD=>by
   have:=aGp n.toNat U aD;rwa[tk aC.1] at this
  refine dw.i func75 ntmps75 λπ s=>?_;conv=>arg 2;whnf
  repeat(first|apply(ad.jy);rfl;rfl;rfl;exact λaD _=>D aD|refine fi ?_|refine tz ?_|refine Nt ?_|refine c8 ?_|refine CE ?_)
  exact cf _ (dt rfl) λaD y=>⟨by rw[jZ,au aC];rfl,y.bk⟩
 .by_cases E:n<0
  .skip
   refine dw.i func75 ntmps75 λπ s=>?_;conv=>arg 2;whnf
   refine uU ?_;apply W.seq;refine apB ?_;apply W.seq;apply W.seq;repeat(first|refine pw ?_|refine uL ?_|refine hL ?_|refine anl ?_|refine EK ?_|refine oR ?_)
   apply W.seq;repeat(first|refine Hg ?_|refine gr ?_)
   refine W.hH λB J c=>?_;have C:B.m (π 0)=bS (Cu (List.replicate 24 0)) 166:=c.bJ 0 (bo:(0:Nat)<1);have f:h.n<=π 0:=c.bL 0 (bo:(0:Nat)<1);generalize π 0=q at *;have u:=bx s.rw f;have oM:=bf.up c.up;repeat(first|apply(ad.aGw n.natAbs);rfl;rfl;rfl;exact aGs U U|refine aou ?_|refine aoc ?_|apply(ad.gC (g0:=98));rfl;rfl;rfl;refine λA j=>⟨_,ast q _ _ _ n.natAbs (List.replicate 24 0) 166 U U alE A (j.up _ _ C) u,?_⟩;rintro v G L ⟨rfl,wM,w⟩ z F|apply(ad.Nv (m:=0));(iterate 4 rfl);omega|refine wI ?_|refine iR ?_|refine jH ?_|refine c8 ?_|refine Cz ?_|refine fy ?_)
   have adm:=z.aO _ _ wM;repeat(first|apply(ad.Wt (l0:=0) (h0:=1+AU n.natAbs));(iterate 4 rfl);exact Ce;omega;omega;omega;exact xr rfl|apply ad.gi;rfl;rfl;rfl;exact wM;exact adm;exact u;(simp only[Cu,fI,W7,rz];omega);rfl;rfl;exact anq _ _ _|refine an6 ?_|refine fi ?_|refine jH ?_|refine c8 ?_|refine anC ?_|refine qU ?_)
   refine cf _ (dt rfl) λaD y=>⟨?_,(asx (c.bk.trans j.bk) (jY w) f).trans y.bk⟩;rw[jZ,ai aC,au E];simp[fp,Ow,ff,iV,PS,yF,nq,I4]
  .skip
   refine dw.i func75 ntmps75 λπ s=>?_;conv=>arg 2;whnf
   refine uU ?_;apply W.seq;refine apB ?_;apply W.seq;apply W.seq;repeat(first|refine pw ?_|refine tz ?_|refine nC ?_|refine EK ?_|refine oR ?_)
   apply W.seq;repeat(first|refine Hg ?_|refine gr ?_)
   refine W.hH λB J c=>?_;have C:B.m (π 0)=bS (Cu (List.replicate 24 0)) 166:=c.bJ 0 (bo:(0:Nat)<1);have f:h.n<=π 0:=c.bL 0 (bo:(0:Nat)<1);generalize π 0=q at *;have u:=bx s.rw f;have oM:=bf.up c.up;repeat(first|apply(ad.aGu n.natAbs);rfl;rfl;rfl;exact aGt U U|refine aou ?_|refine aoc ?_|apply(ad.gC (g0:=98));rfl;rfl;rfl;refine λA j=>⟨_,ast q _ _ _ n.natAbs (List.replicate 24 0) 166 U U alE A (j.up _ _ C) u,?_⟩;rintro v G L ⟨rfl,wM,w⟩ z F|refine fi ?_|refine hL ?_|refine jH ?_|refine c8 ?_|refine zp ?_)
   have adm:=z.aO _ _ wM;repeat(first|refine an6 ?_|refine JT ?_|refine c8 ?_|(with_reducible first|apply W.ret|apply fr|apply sN))
   refine cf _ (dt rfl) λaD y=>⟨?_,(asx (c.bk.trans j.bk) (w) f).trans y.bk⟩;rw[jZ,ai aC,ai E];simp[fp,Ow,ff,iV,PS,I4]
def aGx n(ak:b8 n) h(bf:GT h):dw prog 50 [.int .i64 n] h (λv aw=>v=.string (jZ n)/\cW h aw):=by
 refine dw.i func50 ntmps50 λπ w=>?_;conv=>arg 2;whnf
 repeat(first|apply ad.gC;rfl;rfl;rfl;refine λc bW=>⟨_,asA n ak c (bf.up bW.up),?_⟩;rintro v s u ⟨rfl,xC⟩ j f|refine fi ?_|refine ov ?_)
 exact aba
def aGy n(ak:b8 n) h(bf:GT h):dw prog 51 [.int .i64 n,.int .i64 10] h (λv aw=>v=.string (jZ n)/\cW h aw):=by
 refine dw.i func51 ntmps51 λπ w=>?_;conv=>arg 2;whnf
 repeat(first|apply ad.gC;rfl;rfl;rfl;refine λc bW=>⟨_,asA n ak c (bf.up bW.up),?_⟩;rintro v s u ⟨rfl,xC⟩ j f|refine fi ?_|refine ov ?_)
 exact aba
def aGz n(ak:b8 n) h(bf:GT h):dw prog 30 [.int .i64 n] h (λv aw=>v=.string (jZ n)/\cW h aw):=by
 refine dw.i func30 ntmps30 λπ w=>?_;conv=>arg 2;whnf
 repeat(first|apply ad.gC;rfl;rfl;rfl;refine λc bW=>⟨_,aGx n ak c (bf.up bW.up),?_⟩;rintro v s u ⟨rfl,xC⟩ j f|refine fi ?_|refine ov ?_)
 exact aba
section
variable{P:Program}
def db.forget{G:Nat}{h aw:aV}{ρ ρ':eY}{W W':World}(o:db G h ρ W)(a:db G aw ρ' W')(e:cW h aw):db G h ρ' W' where
 fa i b I:=a.fa i b ((e.2 i (o.lt i b I)).trans I)
 lt:=o.lt
 inj i j b c ag I aB he:=a.inj i j b c ag ((e.2 i (o.lt i b I)).trans I) ((e.2 j (o.lt j c aB)).trans aB) he
 dP:=o.dP
 fu:=a.fu
 kk:=o.kk
 nx:=o.nx
def Ext.forget{h aw:aV}{ρ ρ':eY}{W W':World}{G:Nat}(o:db G h ρ W)(E:Ext h aw ρ ρ' W W')(a:cW h aw):Ext h h ρ ρ' W W' where
 hU:=E.hU
 mono:=b4 _
 l8:=E.l8
 size:=E.size
 fC i b ag I _:=⟨i,b,ag,I,((E.hU i (o.lt i b I)).1).symm⟩
 tape:=E.tape
 os:=E.os
 output:=E.output
 pq i b' ag e:=E.pq i b' ag ((a.2 i ag).trans e)
def bc.asB{g args h v}(aE:bw 0 v)(he:dw P g args h (λb aw=>b=v/\cW h aw)):bc P g ⟨args⟩ h v h:=by
 intro I ρ W aH;obtain⟨b,aw,aS,rfl,a⟩:=he ⟨ρ,W,aH⟩ (λx aa=>I x B6);refine(aS I ρ W aH).mono ?_;rintro e W' ⟨ρ',he,_,c,E⟩;exact⟨ρ',he,hc (dG _) _ aE,db.forget aH c a,Ext.forget aH E a⟩
def db.below{G:Nat}{h:aV}{ρ:eY}{W W':World}(o:db G h ρ W)(a:RowKit.Below W.heap.size W W'):db G h ρ W' where
 fa i b I:=a.block _ (o.fa i b I).lt▸o.fa i b I
 lt:=o.lt
 inj:=o.inj
 dP:=o.dP
 fu:=o.fu
 kk:=o.kk
 nx:=o.nx
def Ext.below{G:Nat}{h:aV}{ρ:eY}{W W':World}(o:db G h ρ W)(a:RowKit.Below W.heap.size W W'):Ext h h ρ ρ W W' where
 hU _ _:=⟨rfl,rfl,rfl⟩
 mono:=b4 _
 l8 c aB _:=a.block c aB
 size:=a.size
 fC i b ag I _:=⟨i,b,ag,I,rfl⟩
 tape:=a.tape
 os:=a.os
 output:=a.output
 pq i b' _ e:=⟨b',e,b4 _,a.block _ (o.fa i b' e).lt▸.refl _ _⟩
def bc.asC{g args v h}(aE:bw 0 v)(aB:∀ρ W,db P.globals.size h ρ W->Calls P g (args.map (bP ρ)) W λe W'=>e=.returned v/\RowKit.Below W.heap.size W W'):bc P g args h v h:=by
 refine λ_ ρ W aH=>(aB ρ W aH).mono ?_;rintro e W' ⟨he,b⟩;exact⟨ρ,by rwa[rE ρ v aE],hc (dG _) _ aE,db.below aH b,Ext.below aH b⟩
end
def GZ n(ak:b8 n) h(bf:GT h):bc prog 30 ⟨[.int .i64 n]⟩ h (.string (jZ n)) h:=bc.asB aF (aGz n ak h bf)
def aoL n(ak:b8 n) h(bf:GT h):bc prog 51 ⟨[.int .i64 n,.int .i64 10]⟩ h (.string (jZ n)) h:=bc.asB aF (aGy n ak h bf)
def rl(xs:List ByteArray)(c4:ByteArray):ByteArray:=⟨(Lib.join (xs.map (·.data.toList)) c4.data.toList).toArray⟩
def asD c4 c h:bc prog 33 ⟨[.slice none 0 c,.string c4]⟩ h (.string (rl [] c4)) h :=
 bc.of_same aF aF λ_ W _=>Tryz.strings_Join_none none c c4 W
def aGA xs c4 b cap e t h(hm:h.m b=some ⟨⟨xs.map Value.string++t⟩,e⟩)(I:df<=b)(q:cap=dF 1\/(cap=xs.length+t.length/\cap<nw))(n:xs.length<=140737488355328)(k:(Lib.join (xs.map (·.data.toList)) c4.data.toList).length<=140737488355328):
 bc prog 33 ⟨[.slice (some ⟨b,0,none⟩) xs.length cap,.string c4]⟩ h (.string (rl xs c4)) h:=by
 refine bc.asC aF λρ W aH=>?_;have c:=aH.fa _ _ hm;have i:=c.acj I;have aB:xs.length<=jv ρ ⟨b,0,none⟩ cap:=by
  rcases q with rfl|⟨J,o⟩
  .have J:jv ρ ⟨b,0,none⟩ (dF 1)=ρ.cap b:=by
    rw[jv,dF,ai U];simp
   rw[J];simp at i;omega
  .rw[jv,au o];omega
 have g:∀(j:Nat) x,xs[j]?=some x->W.cell? ⟨ρ.bJ b,ρ.fO b+j,none⟩=some (.string x):=by
  intro j x f;have:=aH.cell (a:=⟨b,j,none⟩) hm rfl (v:=.string x) (by
   rw[DQ,ur (by simpa using((cS.1 f).1))];simp[f])
  simpa[fJ,Mf] using this
 have:=Tryz.strings_Join (ρ.bJ b) (ρ.fO b) _ xs c4 W g c.lt n aB k;simpa[fJ,rl] using this
def G0{h H:aV}(e:∀i b,h.m i=some b->i<h.n)(a:∀id,id<h.n->H.m id=h.m id):∀i b,h.m i=some b->H.m i=some b:=λi b I=>by rwa[a i (e i b I)]
def aGB:∀i:Fin 100,(Lib.decDigits i.val).length<=24:=VQ
def u4 n:(jZ n).data.size<=24:=by
 unfold jZ;split
 .rename_i h;have:=aGB ⟨n.toNat,U⟩;simpa using this
 .split
  .simp only[Ow,BU,fI];refine bx (ajF _ _) ?_;simp only[P4,mq,W7,rz];omega
  .simp only[Ow,BU,fI];refine bx (ajF _ _) ?_;simp only[P4,W7,rz];omega
def od(a:ho):ByteArray:=if a.ck<0 then jZ a.num else⟨#[114]⟩++jZ a.ck
def abM a(c:a.ok) h(bf:GT h):bc prog 32 ⟨[.agg ⟨dX a⟩]⟩ h (.string (od a)) h:=by
 refine bc.aO λaq=>?_;by_cases aM:a.ck<0
 .rw[od,au aM];refine bc.jT func32 ntmps32 ?_;conv=>arg 2;whnf
  repeat(first|apply ad.py;rfl;rfl;rfl;exact λH b7=>(aoL _ c.2 H (bf.up (G0 aq b7)));exact hS|refine wH ?_|refine iR ?_|refine oS ?_|refine CE ?_)
  exact GO
 .rw[od,ai aM];have f:=u4 a.ck;refine bc.jT func32 ntmps32 ?_;conv=>arg 2;whnf
  repeat(first|apply ad.WG;(iterate 4 rfl);(simp only[ByteArray.size,BU,e5,vg];omega)|apply ad.py;rfl;rfl;rfl;exact λH b7=>(GZ _ c.1 H (bf.up (G0 aq b7)));exact hS|refine wH ?_|refine hL ?_|refine oS ?_|refine EC ?_|refine ou ?_)
  exact GO
def rm(l:List ByteArray):List Value:=l.map Value.string
def nU(l:List ByteArray):List (List Value):=l.map λs=>[Value.string s]
def asE l:(nU l).flatten=rm l:=by
 induction l with
 | nil=>rfl
 | cons a l b =>
  show[Value.string a]++(nU l).flatten=_;rw[b];rfl
def Ox l:(nU l).length=l.length:=fI ..
def aGC l:∀c∈nU l,c.length=1:=by
 intro c aB;obtain⟨a,_,rfl⟩:=ih.1 aB;rfl
def Oy{l}:nU l≠[]↔l≠[]:=by cases l<;>simp[nU]
def asF l s:nU (l++[s])=nU l++[[.string s]]:=QB
def aGD a b:rm (a++b)=rm a++rm b:=pW
structure rn(h0:aV)(r:Nat)(L:List ByteArray)(B:aV):Prop where
 cx:cW h0 B
 row:L≠[]->h0.n<=r/\B.m r=some ⟨⟨rm L⟩,9⟩
def rn.up{h0 r L B a}(s:rn h0 r L B)(c:∀i b,B.m i=some b->i<B.n)(o:cW B a):rn h0 r L a :=
 ⟨s.cx.trans o,λak=>⟨(s.row ak).1,o.up c _ _ (s.row ak).2⟩⟩
def rn.nil{h0 B}r(o:cW h0 B):rn h0 r [] B:=⟨o,λh=>absurd rfl h⟩
section
variable{an:Array Oper}{rs:List fZ}{l:List Oper}{ay:List (Nat×Value)}{al:Nat}{K:Fr->aY->Prop}{d:Tmp}{ty:TypeId}{pos:String}{af:Array Edge}{gd:Option (Nat×Bool)}
def ad.z6{h t x y r q c L s h0 C}[hu:ee prog t (.slice 9)](hw:cw an ⟨some d,.call {callee:=.builtin .append,args:=#[x,y],argTypes:=#[t,t]},ty,pos,af,gd⟩ ⟨ay,al⟩=some true)(aq:Nat.blt d al=true)(aa:Fr.ev ⟨ay,al⟩ x=some (cD 1 r (nU L)))(aN:Fr.ev ⟨ay,al⟩ y=some (.slice (some ⟨q,0,none⟩) 1 c))(E:df<=h0.n)(z:rn h0 r L h.bD)(D:∀B,fG (P:=prog) h B->B.m q=some ⟨⟨[.string s]⟩,C⟩)(G:L.length+1<=8000000000000)(aj:∀v H' π,Sat prog H'->rn h0 v (L++[s]) H'->h.bD.n<=v->cT (λj=>j=r) h.bD H' ->
  ad prog an false (de 0 false [] none::rs) l ⟨(d,cD 1 v (nU (L++[s])))::ay,al⟩ ⟨H',π,0,[]⟩ K):ad prog an false rs (⟨some d,.call {callee:=.builtin .append,args:=#[x,y],argTypes:=#[t,t]},ty,pos,af,gd⟩::l) ⟨ay,al⟩ h K:=by
 refine ad.Sw (L:=nU L) hw aq aa aN rfl rfl (λA a=>⟨D A a,λak=>?_⟩) (aGC L) rfl rfl (by rw[Ox];omega) (by rw[Ox];omega) λA a v H' π F aM hm u w=>?_
 .have:=(z.up a.UN ⟨a.le,a.cx⟩).row (Oy.1 ak);rw[asE];exact⟨bx E this.1,this.2⟩
 .have f:=z.up a.UN ⟨a.le,a.cx⟩;rw[<-asF];refine aj v H' π F ⟨⟨bx f.cx.1 u,λi ag=>?_⟩,λ_=>⟨bx f.cx.1 aM,by rw[<-asF,asE] at hm;exact hm⟩⟩ (bx a.le aM) ⟨bx a.le u,λi ag ak=>by rw[w i (eQ ag a.le) λ_ e=>ak e,a.cx i ag]⟩
  .rw[w i (eQ ag f.cx.1) λak e=>?_,f.cx.2 i ag];have:=(f.row (Oy.1 ak)).1;omega
end
def ad.aGE{bg:Bool}{B:aV}{π:Nat->Nat}{k:Nat}{f:List (Nat×Option cd)}{an:Array Oper}{rs:List fZ}{l:List Oper}{ay:List (Nat×Value)}{al:Nat}{K:Fr->aY->Prop}{d:Tmp}{ty:TypeId}{pos:String}{af:Array Edge}{gd:Option (Nat×Bool)}{t:TypeId}{x y:Operand}{r q c:Nat}{L:List ByteArray}{s:ByteArray}{a1:TypeId}[hu:ee prog t (.slice 9)](hw:cw an ⟨some d,.call {callee:=.builtin .append,args:=#[x,y],argTypes:=#[t,t]},ty,pos,af,gd⟩ ⟨ay,al⟩=some true)(aq:Nat.blt d al=true)(aa:Fr.ev ⟨ay,al⟩ x=some (cD 1 r (nU L)))(aN:Fr.ev ⟨ay,al⟩ y=some (.slice (some ⟨π q,0,none⟩) 1 c))(v:L≠[])(z:B.m r=some ⟨⟨rm L⟩,9⟩)(w:r<B.n)(A:df<=r)(C:q<k)(u:ec f q=some ⟨⟨[.string s]⟩,a1⟩)(D:L.length+1<=8000000000000)(aj:ad prog an bg (mP k q::rs) l ⟨(d,cD 1 (π k) (nU (L++[s])))::ay,al⟩ ⟨B.fB r,π,k+1,(k,some ⟨⟨rm (L++[s])⟩,9⟩)::f⟩ K):ad prog an bg rs (⟨some d,.call {callee:=.builtin .append,args:=#[x,y],argTypes:=#[t,t]},ty,pos,af,gd⟩::l) ⟨ay,al⟩ ⟨B,π,k,f⟩ K:=by
 rw[jO,Ox,ai (Oy.2 v),ai (Oy.2 v)] at aa;rw[jO,Ox,ai (Oy.2 aF),ai (Oy.2 aF),aGD,iM] at aj;exact ad.agr (e:=9) hw aq aa aN rfl rfl z w A (by simp[rm]) C u rfl rfl U U aj
def asG xs c4 r h h0(b:rn h0 r xs h)(f:df<=h0.n)(e:xs.length<=140737488355328)(c:(Lib.join (xs.map (·.data.toList)) c4.data.toList).length<=140737488355328):
 bc prog 33 ⟨[cD 1 r (nU xs),.string c4]⟩ h (.string (rl xs c4)) h:=by
 rcases xs with _|⟨a,l⟩
 .exact asD c4 0 h
 .have hm:=(b.row aF).2;have:=aGA (a::l) c4 r (dF 1) 9 [] h (by rwa[l2]) (bx f (b.row aF).1) (.inl rfl) e c;rw[jO,Ox,ai QB,ai QB];exact dm
def join_le(xs:List ByteArray)(c4:ByteArray)M(h:∀s∈xs,s.data.size<=M):(Lib.join (xs.map (·.data.toList)) c4.data.toList).length<=xs.length*(M+c4.data.size):=by
 rcases xs with _|⟨a,l⟩
 .simp[Lib.join_nil]
 .rw[gg,Lib.join_length];have ao:∀l:List ByteArray,(∀s∈l,s.data.size<=M)->Lib.lens (l.map (·.data.toList))<=l.length*M:=by
   intro l;induction l with
   | nil=>intro _;simp[Lib.lens]
   | cons b l aP =>
    intro I;have J:=aP λs aC=>I s (by simp[aC]);have ab:=I b aF;simp only[Lib.lens,gg,nP,e5,uu,Ap] at J|-;omega
  have aK:=ao (a::l) h;rw[gg,e5] at aK;rw[fI,Ap,Nat.mul_add,e5];have br:c4.data.size*l.length<=(l.length+1)*c4.data.size:=by rw[IW];exact I2 _ U
  omega
end
section
attribute[local irreducible] W ad
def Fz:List ByteArray:=[⟨#[]⟩,⟨#[99,111,110,115,116]⟩,⟨#[99,111,112,121]⟩,⟨#[97,100,100]⟩,⟨#[115,117,98]⟩,⟨#[109,117,108]⟩,⟨#[100,105,118]⟩,⟨#[117,100,105,118]⟩,⟨#[114,101,109]⟩,⟨#[117,114,101,109]⟩,⟨#[97,110,100]⟩,⟨#[111,114]⟩,⟨#[120,111,114]⟩,⟨#[115,104,108]⟩,⟨#[115,97,114]⟩,⟨#[115,104,114]⟩,⟨#[101,113]⟩,⟨#[110,101]⟩,⟨#[108,116]⟩,⟨#[108,101]⟩,⟨#[117,108,116]⟩,⟨#[117,108,101]⟩,⟨#[101,120,116]⟩,⟨#[103,108,111,98,97,108]⟩,⟨#[115,108,111,116]⟩,⟨#[102,117,110,99]⟩,⟨#[108,111,97,100]⟩,⟨#[115,116,111,114,101]⟩,⟨#[99,97,108,108]⟩,⟨#[99,97,108,108,97,116]⟩,⟨#[111,117,116]⟩]
def FA(h:aV):Prop:=∃e,h.m 0=some ⟨⟨rm Fz⟩,e⟩
def FA.up{h H}(g:FA h)(hu:∀i b,h.m i=some b->H.m i=some b):FA H:=by
 have⟨e,he⟩:=g;exact⟨e,hu _ _ he⟩
def H6(op:Int):ByteArray:=(Fz[op.toNat]?).getD ⟨#[]⟩
def asH{n}(ak:n<31):(rm Fz)[0+n*1]?=some (.string (H6 n)):=by
 rw[H6,rm,ff,iV,gf,ry,ey ak];rfl
def aGF:∀n:Fin 31,((Fz[n.val]?).getD ⟨#[]⟩).data.size<=24:=VQ
def ags op(h0:0<=op)(J:op<31):(H6 op).data.size<=24:=aGF ⟨op.toNat,U⟩
def s6(x:cO):List ByteArray:=if 0<=x.dst then[⟨#[114]⟩++jZ x.dst++⟨#[32,61]⟩] else[]
def vP(x:cO):ByteArray:=if 0<x.op/\x.op<31 then H6 x.op else⟨#[63]⟩
def z7(x:cO):ByteArray:=if x.op=22\/x.op=26\/x.op=27 then(if x.signed=true then vP x++jZ (IntKind.i64.wrap (8*x.size))++⟨#[115]⟩ else vP x++jZ (IntKind.i64.wrap (8*x.size))) else vP x
def OA(x:cO):List ByteArray:=if x.op=23\/x.op=24\/x.op=25\/x.op=28 then[⟨#[35]⟩++jZ x.ref] else[]
def FB(x:cO):List ByteArray:=if x.off=0 then[] else[⟨#[43]⟩++jZ x.off]
def y0(x:cO):List ByteArray:=if x.hO=true then[⟨#[115,101,99,114,101,116]⟩] else[]
def oe(x:cO):List ByteArray:=s6 x++[z7 x]++OA x
def K0(x:cO):List ByteArray:=oe x++(eI x).map od++FB x++y0 x
def H7(x:cO):ByteArray:=rl (K0 x) ⟨#[32]⟩
def agt x:(s6 x).length<=1:=by unfold s6;split<;>simp
def aGG x:(OA x).length<=1:=by unfold OA;split<;>simp
def aGH x:oe x≠[]:=by unfold oe;simp
def asI x:(oe x).length<=3:=by
 have J:=agt x;have a:=aGG x;unfold oe;simp[iM,e5,vg];omega
def Sx(L:List ByteArray):Prop:=L.length<=200000/\∀s∈L,s.data.size<=100
def asJ x(ak:x.args.length<=100000):(eI x).length<=100001:=by
 unfold eI;repeat' split
 all_goals(first|omega|simp;done|simp;omega)
def aGI{x}(aa:x.ok):∀a∈eI x,a.ok:=by
 intro a c;unfold eI at c;repeat' split at c
 all_goals(try simp[dI,jP,j6] at c)
 .exact aa.args a c
 .rcases c with rfl|c
  .exact aa.a
  .exact aa.args a c
 .rcases c with rfl|rfl
  .exact aa.a
  .exact aa.b
 .exact c▸aa.a
def s7(a b:ByteArray):(a++b).data.size=a.data.size+b.data.size:=P1
def YM a:(od a).data.size<=25:=by
 unfold od;split
 .have:=u4 a.num;omega
 .rw[s7];have:=u4 a.ck;have e:(⟨#[114]⟩:ByteArray).data.size=1:=rfl;omega
def asK x:(vP x).data.size<=24:=by
 unfold vP;split
 .exact ags _ U U
 .exact iu
def aGJ x:∀s∈oe x,s.data.size<=100:=by
 have b:=u4 x.dst;have j:=u4 x.ref;have i:=u4 (IntKind.i64.wrap (8*x.size));have a:=asK x;have f:(⟨#[114]⟩:ByteArray).data.size=1:=rfl;have g:(⟨#[32,61]⟩:ByteArray).data.size=2:=rfl;have e:(⟨#[35]⟩:ByteArray).data.size=1:=rfl;have c:(⟨#[115]⟩:ByteArray).data.size=1:=rfl;intro s aC;unfold oe s6 OA at aC;simp only[ha,dI,jP,j6] at aC;rcases aC with(aC|aC)|aC
 .split at aC
  .simp[dI,jP,j6] at aC;rw[aC,s7,s7];omega
  .cases aC
 .rw[aC];unfold z7;repeat' split
  .rw[s7,s7];omega
  .rw[s7];omega
  .exact U
 .split at aC
  .simp[dI,jP,j6] at aC;rw[aC,s7];omega
  .cases aC
def asL x(aa:x.ok)(ak:x.args.length<=100000):(oe x++(eI x).map od).length<=100004/\∀s∈oe x++(eI x).map od,s.data.size<=100:=by
 have J:=asI x;have b:=asJ x ak;refine⟨by simp[iM,fI];omega,λs aC=>?_⟩;rcases ha.1 aC with h|h
 .exact aGJ x s h
 .obtain⟨a,_,rfl⟩:=ih.1 h;have:=YM a;omega
def Sx.snoc{L n}(h:L.length<=n/\∀s∈L,s.data.size<=100){s:ByteArray}(aC:s.data.size<=100):(L++[s]).length<=n+1/\∀s'∈L++[s],s'.data.size<=100:=by
 refine⟨by simp[iM,e5,vg];omega,λs' aw=>?_⟩;rcases ha.1 aw with e|e
 .exact h.2 s' e
 .rwa[gU.1 e]
def aGM x(aa:x.ok) S Z h(ao:c0 h S 2 x.args kL)(ak:x.args.length<=100000)(bf:GT h)(aS:FA h):bc prog 31 ⟨[.agg ⟨cL x S Z⟩]⟩ h (.string (H7 x)) h:=by
 have aGK:=u4 x.dst;have G8:=u4 x.ref;have aGN:=u4 x.off;have QX:=u4 (IntKind.i64.wrap (8*x.size));refine bc.rX func31 ntmps31 (λbF=>⟨b4 _,aF,λi b I=>⟨bF.aO i b I,bF.dP i b I⟩⟩) λπ bF=>?_;conv=>arg 2;whnf
 refine Kb ?_;refine W.hH λf pD a0=>?_;have qZ:f.m (π 0)=bS (cL x S Z) 42:=a0.bJ 0 (bo:(0:Nat)<1);generalize π 0=q at *;have C:=a0.j9.rw;have Sy:=bf.up a0.up;have cc:=qZ;have dW:=a0.aO _ _ qZ;have oM:=Sy;refine uU ?_;apply W.seq;refine W.KW (X:=Nat) (λr=>[(1,cE q),(3,cD 1 r (nU (s6 x)))]) (λr B=>rn f r (s6 x) B) ?_ ?_
 .have jt:=rn.nil 0 (cW.refl f);have u:([]:List ByteArray).length+1<=8000000000000:=bo;by_cases aq:0<=x.dst
  .have e:s6 x=[]++[⟨#[114]⟩++jZ x.dst++⟨#[32,61]⟩]:=by rw[s6,au aq];rfl
   repeat(first|refine M0 ?_|refine qh ?_|refine gP ?_|refine na ?_|refine iR ?_|refine c8 ?_|refine Cz ?_|refine fy ?_|apply(ad.jy (g0:=30));rfl;rfl;rfl;exact λaD eL=>GZ x.dst aa.dst aD (oM.up λi b I=>eL.up i b I)|apply(ad.z6 (h0:=f) (L:=[]) (r:=0));(iterate 4 rfl);exact C;exact jt;exact GL;exact u;intro A R F s1 nQ E D)
   refine qw rfl λaD a=>⟨A,?_,e▸nQ.up s1.aO a.bk⟩;rw[e];exact ca
  .have e:s6 x=[]:=by rw[s6,ai aq]
   repeat(first|refine qh ?_|refine hL ?_|refine Nn ?_|refine c8 ?_|refine zp ?_)
   refine qw rfl λaD a=>⟨0,?_,e▸rn.nil 0 a.bk⟩;rw[e];exact ca
 rintro hV B2 fE V Sz;have cc:=Sz.cx.up a0.aO _ _ qZ;have dW:=V.aO _ _ cc;refine uU ?_;apply W.seq;refine W.KW (X:=Nat) (λr=>[(1,cE q),(3,cD 1 r (nU (s6 x))),(4,.string (vP x))]) (λr B=>rn f r (s6 x) B) ?_ ?_
 .by_cases h0:0<x.op
  .by_cases J:x.op<31
   .have e:vP x=H6 x.op:=by rw[vP,au ⟨h0,J⟩]
    have⟨aeN,Y⟩:=aS;have cQ:=Sz.cx.up a0.aO _ _ (a0.up _ _ Y);have mD:=V.aO _ _ cQ;have e7:=asH (n:=x.op.toNat) U;rw[tk U] at e7;repeat(first|apply(ad.Nv (m:=x.op.toNat));rfl;rfl;rfl;exact aj1;omega|(apply ad.dv;rfl;rfl;rfl;first|exact cQ;exact mD;exact e7|exact cc;exact dW;rfl)|refine na ?_|refine tz ?_|refine iR ?_|refine c8 ?_|refine Cz ?_|refine fy ?_)
    refine qw rfl λaD a=>⟨hV,?_,Sz.up V.aO a.bk⟩;rw[e];exact ca
   .have e:vP x=⟨#[63]⟩:=by rw[vP,ai (λh=>J h.2)]
    repeat(first|refine qh ?_|refine n4 ?_|refine tz ?_|refine nC ?_|refine c8 ?_|refine zp ?_)
    refine qw rfl λaD a=>⟨hV,?_,Sz.up V.aO a.bk⟩;rw[e];exact ca
  .have e:vP x=⟨#[63]⟩:=by rw[vP,ai (λh=>h0 h.1)]
   repeat(first|refine qh ?_|refine n4 ?_|refine uL ?_|refine hL ?_|refine hW ?_|refine zp ?_)
   refine qw rfl λaD a=>⟨hV,?_,Sz.up V.aO a.bk⟩;rw[e];exact ca
 rintro wB eW fj tR SA;have cc:=SA.cx.up a0.aO _ _ qZ;have dW:=tR.aO _ _ cc;have oM:=Sy.up (SA.cx.up a0.aO);have aGL:=asK x;apply W.seq;refine W.KW (X:=Nat) (λr=>[(1,cE q),(3,cD 1 r (nU (s6 x))),(4,.string (z7 x))]) (λr B=>rn f r (s6 x) B) ?_ ?_
 .by_cases aB:x.op=22\/x.op=26\/x.op=27
  .cases D8:x.signed with
   | true =>
    have e:z7 x=vP x++jZ (IntKind.i64.wrap (8*x.size))++⟨#[115]⟩:=by rw[z7,au aB,au D8]
    have Q:x.op=22\/(¬x.op=22/\x.op=26)\/(¬x.op=22/\¬x.op=26/\x.op=27):=U;rcases Q with aB|⟨aB,qR⟩|⟨aB,qR,k6⟩
    all_goals
     repeat(first|refine adA ?_|refine M0 ?_|refine qh ?_|refine aod ?_|refine na ?_|refine pA ?_|refine k7 ?_|refine hW ?_|refine Cz ?_|refine fy ?_)
     refine qw rfl λaD a=>⟨wB,?_,SA.up tR.aO a.bk⟩;rw[e];exact ca
   | false =>
    have e:z7 x=vP x++jZ (IntKind.i64.wrap (8*x.size)):=by unfold z7;rw[au aB,ai (by rw[D8];decide)]
    have Q:x.op=22\/(¬x.op=22/\x.op=26)\/(¬x.op=22/\¬x.op=26/\x.op=27):=U;rcases Q with aB|⟨aB,qR⟩|⟨aB,qR,k6⟩
    all_goals
     repeat(first|refine adB ?_|refine M0 ?_|refine qh ?_|refine aod ?_|refine na ?_|refine pA ?_|refine k7 ?_|refine hW ?_|refine WL ?_|refine fy ?_)
     refine qw rfl λaD a=>⟨wB,?_,SA.up tR.aO a.bk⟩;rw[e];exact ca
  .have e:z7 x=vP x:=by rw[z7,ai aB]
   have qR:¬x.op=22:=U;have k6:¬x.op=26:=U;have asM:¬x.op=27:=U;repeat(first|refine qh ?_|refine n4 ?_|refine uL ?_|refine nD ?_|refine zp ?_)
   refine qw rfl λaD a=>⟨wB,?_,SA.up tR.aO a.bk⟩;rw[e];exact ca
 rintro Nz gv rj aGO jt;have cc:=jt.cx.up a0.aO _ _ qZ;have dW:=aGO.aO _ _ cc;have oM:=Sy.up (jt.cx.up a0.aO);have u:(s6 x).length+1<=8000000000000:=by have:=agt x;omega
 apply W.seq;repeat(first|refine gP ?_|apply(ad.z6 (h0:=f));(iterate 4 rfl);exact C;exact jt;exact GL;exact u;intro A R F s1 nQ E D|refine fi ?_|refine gr ?_)
 have YN:=nQ;have cc:=YN.cx.up a0.aO _ _ qZ;have dW:=s1.aO _ _ cc;have oM:=Sy.up (YN.cx.up a0.aO);have jt:=YN;have u:(s6 x++[z7 x]).length+1<=8000000000000:=by have:=agt x;simp[iM,e5,vg];omega
 apply W.seq;refine W.KW (X:=Nat) (λr=>[(1,cE q),(3,cD 1 r (nU (oe x)))]) (λr B=>rn f r (oe x) B) ?_ ?_
 .by_cases aB:x.op=23\/x.op=24\/x.op=25\/x.op=28
  .have e:oe x=(s6 x++[z7 x])++[⟨#[35]⟩++jZ x.ref]:=by rw[oe,OA,au aB]
   have Q:x.op=23\/(¬x.op=23/\x.op=24)\/(¬x.op=23/\¬x.op=24/\x.op=25)\/(¬x.op=23/\¬x.op=24/\¬x.op=25/\x.op=28):=U;rcases Q with aB|⟨aB,qR⟩|⟨aB,qR,k6⟩|⟨aB,qR,k6,Q⟩
   all_goals
    repeat(first|refine M0 ?_|refine qh ?_|apply(ad.jy (g0:=30));rfl;rfl;rfl;exact λaD eL=>GZ x.ref aa.ref aD (oM.up λi b I=>eL.up i b I)|refine gP ?_|apply(ad.z6 (h0:=f));(iterate 4 rfl);exact C;exact jt;exact GL;exact u;intro A R F s1 nQ E D|refine x1 ?_|refine kW ?_|refine oR ?_)
    refine qw rfl λaD a=>⟨A,?_,e▸nQ.up s1.aO a.bk⟩;rw[e];exact ca
  .have e:oe x=s6 x++[z7 x]:=by rw[oe,OA,ai aB,l2]
   have qR:¬x.op=23:=U;have k6:¬x.op=24:=U;have Q:¬x.op=25:=U;have asM:¬x.op=28:=U;repeat(first|refine qh ?_|refine Xg ?_|refine nD ?_|refine ank ?_|refine ou ?_)
   refine qw rfl λaD a=>⟨A,?_,e▸YN.up s1.aO a.bk⟩;rw[e];exact ca
 rintro Kg uQ Og SB O;have cc:=O.cx.up a0.aO _ _ qZ;have dW:=SB.aO _ _ cc;have aR1:=asN x U;have hM:=asJ x ak;have aGP:=aGI aa;have aR2:=asI x;repeat(first|apply ad.hF;rfl;rfl;rfl;exact cc;exact dW;exact iu;exact(show cr 0 12 (cL x S Z)=cL x S Z from rfl)|apply(ad.gC (g0:=46));rfl;rfl;rfl;refine λaGQ n6=>⟨_,asO x S Z U aGQ ((ao.mono a0.up λ_ _ h=>h).mono (λi b I=>n6.up i b ((O.cx.up a0.aO) i b I)) λ_ _ h=>h),?_⟩;rintro v hJ yf ⟨mN,ob,rfl,aGR,SC⟩ s3 oc|refine EB ?_|refine mc ?_)
 have asP:=(O.up SB.aO (n6.bk.trans SC));refine W.hz (X:=Nat×Nat) (λz=>[(1,cE q),(72,.slice mN (eI x).length ob),(73,bm ((eI x).length:Int)),(74,bm (z.1:Int)),(3,cD 1 z.2 (nU (oe x++((eI x).take z.1).map od)))]) (λz B=>z.1<=(eI x).length/\(cT (λj=>j=Kg) hJ B/\(z.2=Kg\/hJ.n<=z.2))/\rn f z.2 (oe x++((eI x).take z.1).map od) B) (λz=>(eI x).length-z.1)
  (λaD a=>⟨(0,Kg),?_,⟨dG _,⟨a.bk.off,.inl rfl⟩,by rw[xp,oH,l2];exact asP.up s3.aO a.bk⟩⟩) ?_
 .rw[xp,oH,l2];exact ca
 rintro⟨i,fM⟩ iN Dd pP ⟨ag,⟨Ot,rp⟩,jt⟩;dsimp only at ag jt rp|-;have oM:=Sy.up (jt.cx.up a0.aO);have u:(oe x++((eI x).take i).map od).length+1<=8000000000000:=by
  simp[iM,fI,IU];omega
 by_cases bs:i<(eI x).length
 .obtain⟨a,aJ⟩:∃a,(eI x)[i]?=some a:=⟨_,ey bs⟩;obtain⟨qs,gY,eJ,aro,rfl,Y,n5,lz⟩:=aGR.get i a aJ;have lz:cr (gY+i*2) 2 eJ=dX a:=lz;have cQ:iN.m qs=bS eJ aro:=by
   rw[Ot.2 qs (s3.aO _ _ Y) λe=>?_]
   .exact Y
   .have J:=(asP.row (aGH x)).2;rw[<-e,Y] at J;injection J with J;injection J with J _;injection J with J;have ab:=ka lz (j:=0) rfl;rw[J] at ab;rw[rm,gf] at ab;rcases aK:(oe x)[gY+i*2+0]? with _|s
    .rw[aK] at ab;cases ab
    .rw[aK] at ab;cases ab
  have mD:=pP.aO _ _ cQ;have aGS:=aGP a (bQ aJ);have Mz:oe x++((eI x).take (i+1)).map od=oe x++((eI x).take i).map od++[od a]:=by
   rw[Aw,aJ];simp
  repeat(first|refine AY ?_|apply(ad.jy (g0:=32));rfl;rfl;rfl;exact λaD eL=>abM a aGS aD (oM.up λi b I=>eL.up i b I)|apply(ad.z6 (h0:=f));(iterate 4 rfl);exact C;exact jt;exact Vc;exact u;intro A R F s1 nQ E D|refine gP ?_|refine uT ?_|refine AX ?_)
  refine eK rfl λaD y=>⟨(i+1,A),?_,⟨hR,⟨((Ot.trans (T:=λj=>j=fM) D λj aA e=>Or.elim rp (λiD=>e.trans iD) (λiD=>U))).dB y.bk.off,.inr (bx Ot.1 E)⟩,alh⟩,hR⟩;dsimp only;rw[Mz];exact ca
 .have rT:i=(eI x).length:=U;have xa:oe x++((eI x).take i).map od=oe x++(eI x).map od:=by rw[rT,mv]
  rw[xa] at jt u|-;have cc:=jt.cx.up a0.aO _ _ qZ;have dW:=pP.aO _ _ cc;have Ax:=asL x aa ak;have cC:∀(L:List ByteArray) (r:Nat) (B aD:aV),rn f r L B->(∀i b,B.m i=some b->i<B.n)->cW B aD->Sx L->bc prog 33 ⟨[cD 1 r (nU L),.string ⟨#[32]⟩]⟩ aD (.string (rl L ⟨#[32]⟩)) aD:=by
   intro L r B aD J ab aK br;have hle:=join_le L ⟨#[32]⟩ 100 br.2;have cz:=br.1;have gx:L.length*(100+(⟨#[32]⟩:ByteArray).data.size)<=140737488355328:=by
    have:(⟨#[32]⟩:ByteArray).data.size=1:=rfl;rw[this];omega
   exact asG L _ r aD f (J.up ab aK) C U (bx hle gx)
  have nr:H7 x=rl (oe x++(eI x).map od++FB x++y0 x) ⟨#[32]⟩:=rfl;by_cases fw:x.off=0
  .have N:FB x=[]:=by rw[FB,au fw]
   rw[N,l2] at nr;cases D8:x.hO with
   | true =>
    have G:y0 x=[⟨#[115,101,99,114,101,116]⟩]:=by rw[y0,au D8]
    rw[G] at nr;have uv:=Sx.snoc Ax (s:=⟨#[115,101,99,114,101,116]⟩) (dM rfl);repeat(first|refine adA ?_|apply(ad.jy (g0:=33));rfl;rfl;rfl;exact UM|refine qh ?_|refine gP ?_|apply(ad.z6 (h0:=f));(iterate 4 rfl);exact C;exact jt;exact GL;exact u;intro A R F s1 nQ E D|refine na ?_|refine nD ?_|refine ads ?_|refine lC ?_)
    exact aa4
   | false =>
    have G:y0 x=[]:=ak4;rw[G,l2] at nr;repeat(first|refine adB ?_|apply(ad.jy (g0:=33));rfl;rfl;rfl;exact UM|refine qh ?_|refine na ?_|refine nD ?_|refine ads ?_|refine lC ?_)
    exact cf _ (dt rfl) λaD y=>⟨by rw[nr];rfl,λj x aA=>y.up _ _ (jt.cx.up a0.aO _ _ (a0.up _ _ aA))⟩
  .have N:FB x=[⟨#[43]⟩++jZ x.off]:=by rw[FB,ai fw]
   rw[N] at nr;have uv:=Sx.snoc Ax (s:=⟨#[43]⟩++jZ x.off) (by
    have ba:(⟨#[43]⟩++jZ x.off).data.size=1+(jZ x.off).data.size:=P1;rw[ba];omega)
   cases D8:x.hO with
   | true =>
    have G:y0 x=[⟨#[115,101,99,114,101,116]⟩]:=by rw[y0,au D8]
    rw[G] at nr;have ajJ:=Sx.snoc uv (s:=⟨#[115,101,99,114,101,116]⟩) (dM rfl);have aGT:(oe x++(eI x).map od++[⟨#[43]⟩++jZ x.off]).length+1<=8000000000000:=by have:=uv.1;omega
    repeat(first|refine adA ?_|apply(ad.z6 (h0:=f));(iterate 4 rfl);exact C;exact nQ;exact GL;exact aGT;intro A R F s1 nQ E D|apply(ad.jy (g0:=33));rfl;rfl;rfl;exact UM|refine M0 ?_|refine an9 ?_|refine aoK ?_|refine gP ?_|apply(ad.z6 (h0:=f));(iterate 4 rfl);exact C;exact jt;exact GL;exact u;intro A R F s1 nQ E D|refine x1 ?_|refine c8 ?_|refine anp ?_|refine q1 ?_)
    exact aa4
   | false =>
    have G:y0 x=[]:=ak4;rw[G,l2] at nr;repeat(first|refine adB ?_|apply(ad.jy (g0:=33));rfl;rfl;rfl;exact UM|refine M0 ?_|refine an9 ?_|refine aoK ?_|refine gP ?_|apply(ad.z6 (h0:=f));(iterate 4 rfl);exact C;exact jt;exact GL;exact u;intro A R F s1 nQ E D|refine x1 ?_|refine c8 ?_|refine ads ?_|refine q1 ?_)
    exact aa4
end
end Go.Proofs.YtplleokmejppjaaGreatDoor
