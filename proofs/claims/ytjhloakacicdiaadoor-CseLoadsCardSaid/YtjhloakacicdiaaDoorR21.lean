/-
  What the functions that the law reaches compute,told by plain data;it holds of programs that pass the check of right form and are light.
-/
import Derived.Shelf.LaysM
import Derived.Shelf.Strconv.Itoa0
import Derived.Shelf.Strconv.Itoa1
import Derived.Shelf.Strconv.Itoa2
import Derived.Shelf.Strconv.Itoa3
import Derived.Shelf.Strconv.Itoa4
import Derived.Shelf.Strings.Builder1
import Derived.Shelf.Strings.Builder2
import Derived.Shelf.Strings.Builder2Cap
import Derived.Shelf.Strings.OnBuilder
import Derived.Test.YtjhloakacicdiaaDoorProg
import Derived.Test.YtjhloakacicdiaaDoorR1
import Derived.Test.YtjhloakacicdiaaDoorR20
import Derived.Test.YtjhloakacicdiaaDoorR3
import Derived.Test.YtjhloakacicdiaaDoorR9
import Derived.Test.YtjhloakacicdiaaDoorS2
set_option linter.unusedVariables false
set_option linter.unusedSimpArgs false
namespace Go.Proofs
open Go.Shelf
def Tryd.lays169_ren:Go.Shelf.Ren:=⟨fun|169=>69|n=>n,fun|70=>118|9=>9|0=>0|72=>120|37=>28|127=>150|3=>3|5=>5|n=>n,fun|n=>n⟩
theorem Tryd.lays169:Go.Proofs.Lays.n169 Tryd.prog Tryd.lays169_ren:={
 mixed:=by kernel_rfl
 f169:=Tryd.func69.trans (congrArg some (by kernel_rfl))
 t0:=Tryd.underlying0
 a0:=Tryd.isAgg0
 z0:=Tryd.sizeOf0
 v0:=Tryd.zeroValue0
 t3:=Tryd.underlying3
 a3:=Tryd.isAgg3
 z3:=Tryd.sizeOf3
 v3:=Tryd.zeroValue3
 t9:=Tryd.underlying9
 a9:=Tryd.isAgg9
 z9:=Tryd.sizeOf9
 v9:=Tryd.zeroValue9
 t37:=Tryd.underlying28
 a37:=Tryd.isAgg28
 z37:=Tryd.sizeOf28
 v37:=Tryd.zeroValue28
 t70:=Tryd.underlying118
 a70:=Tryd.isAgg118
 z70:=Tryd.sizeOf118
 v70:=Tryd.zeroValue118
 t72:=Tryd.underlying120
 a72:=Tryd.isAgg120
 z72:=Tryd.sizeOf120
 v72:=Tryd.zeroValue120
 t127:=Tryd.underlying150
 a127:=Tryd.isAgg150
 z127:=Tryd.sizeOf150
 v127:=Tryd.zeroValue150 }
theorem Tryd.Builder_Extra_169:Builder.Extra Tryd.prog Tryd.lays169_ren:={
 sizeBuilder:=by kernel_rfl
 liesBuilder:=by kernel_rfl
 t5:=Tryd.underlying5
 a5:=Tryd.isAgg5
 z5:=Tryd.sizeOf5
 v5:=Tryd.zeroValue5
 infoByte:=by kernel_rfl
 cellsByte:=by kernel_rfl
 sizeByte:=by kernel_rfl
 neB5:=by decide }
open Go.RowKit in
theorem Tryd.Builder_String_any (B b:Nat) (l:List UInt8) (w:World) (h:Lib.IsBuilder 120 5 B b (Lib.byteCells l) w) (hBw:B≤w.heap.size) :
 Calls Tryd.prog 69 #[.pointer (some ⟨b,0,none⟩)] w fun e w'=>e=.returned (.string ⟨l.toArray⟩)∧Below B w w':=Any.Builder_String_any Tryd.lays169 Tryd.Builder_Extra_169 B b l w h hBw
def Tryd.lays241_ren:Go.Shelf.Ren:=⟨fun|241=>89|277=>106|n=>n,fun|70=>118|3=>3|0=>0|72=>120|37=>28|5=>5|n=>n,fun|n=>n⟩
open Go.RowKit in
def Tryd.lays165_ren:Go.Shelf.Ren:=⟨fun|165=>67|240=>88|241=>89|276=>105|277=>106|n=>n,fun|70=>118|3=>3|0=>0|4=>4|9=>9|20=>20|72=>120|37=>28|164=>169|5=>5|n=>n,fun|n=>n⟩
theorem Tryd.lays165:Go.Proofs.Lays.n165 Tryd.prog Tryd.lays165_ren:={
 mixed:=by kernel_rfl
 f165:=Tryd.func67.trans (congrArg some (by kernel_rfl))
 f240:=Tryd.func88.trans (congrArg some (by kernel_rfl))
 f241:=Tryd.func89.trans (congrArg some (by kernel_rfl))
 f276:=Tryd.func105.trans (congrArg some (by kernel_rfl))
 f277:=Tryd.func106.trans (congrArg some (by kernel_rfl))
 t0:=Tryd.underlying0
 a0:=Tryd.isAgg0
 z0:=Tryd.sizeOf0
 v0:=Tryd.zeroValue0
 t3:=Tryd.underlying3
 a3:=Tryd.isAgg3
 z3:=Tryd.sizeOf3
 v3:=Tryd.zeroValue3
 t4:=Tryd.underlying4
 a4:=Tryd.isAgg4
 z4:=Tryd.sizeOf4
 v4:=Tryd.zeroValue4
 t9:=Tryd.underlying9
 a9:=Tryd.isAgg9
 z9:=Tryd.sizeOf9
 v9:=Tryd.zeroValue9
 t20:=Tryd.underlying20
 a20:=Tryd.isAgg20
 z20:=Tryd.sizeOf20
 v20:=Tryd.zeroValue20
 t37:=Tryd.underlying28
 a37:=Tryd.isAgg28
 z37:=Tryd.sizeOf28
 v37:=Tryd.zeroValue28
 t70:=Tryd.underlying118
 a70:=Tryd.isAgg118
 z70:=Tryd.sizeOf118
 v70:=Tryd.zeroValue118
 t72:=Tryd.underlying120
 a72:=Tryd.isAgg120
 z72:=Tryd.sizeOf120
 v72:=Tryd.zeroValue120
 t164:=Tryd.underlying169
 a164:=Tryd.isAgg169
 z164:=Tryd.sizeOf169
 v164:=Tryd.zeroValue169 }
theorem Tryd.Builder_Extra_165:Builder.Extra Tryd.prog Tryd.lays165_ren:={
 sizeBuilder:=by kernel_rfl
 liesBuilder:=by kernel_rfl
 t5:=Tryd.underlying5
 a5:=Tryd.isAgg5
 z5:=Tryd.sizeOf5
 v5:=Tryd.zeroValue5
 infoByte:=by kernel_rfl
 cellsByte:=by kernel_rfl
 sizeByte:=by kernel_rfl
 neB5:=by decide }
open Go.RowKit in
def Tryd.lays156_ren:Go.Shelf.Ren:=⟨fun|156=>42|165=>67|166=>68|169=>69|240=>88|241=>89|276=>105|277=>106|n=>n,fun|31=>80|9=>9|3=>3|4=>4|0=>0|20=>20|72=>120|76=>123|70=>118|37=>28|75=>122|127=>150|164=>169|5=>5|80=>39|n=>n,fun|n=>n⟩
theorem Tryd.lays156:Go.Proofs.Lays.n156 Tryd.prog Tryd.lays156_ren:={
 mixed:=by kernel_rfl
 f156:=Tryd.func42.trans (congrArg some (by kernel_rfl))
 f165:=Tryd.func67.trans (congrArg some (by kernel_rfl))
 f166:=Tryd.func68.trans (congrArg some (by kernel_rfl))
 f169:=Tryd.func69.trans (congrArg some (by kernel_rfl))
 f240:=Tryd.func88.trans (congrArg some (by kernel_rfl))
 f241:=Tryd.func89.trans (congrArg some (by kernel_rfl))
 f276:=Tryd.func105.trans (congrArg some (by kernel_rfl))
 f277:=Tryd.func106.trans (congrArg some (by kernel_rfl))
 t0:=Tryd.underlying0
 a0:=Tryd.isAgg0
 z0:=Tryd.sizeOf0
 v0:=Tryd.zeroValue0
 t3:=Tryd.underlying3
 a3:=Tryd.isAgg3
 z3:=Tryd.sizeOf3
 v3:=Tryd.zeroValue3
 t4:=Tryd.underlying4
 a4:=Tryd.isAgg4
 z4:=Tryd.sizeOf4
 v4:=Tryd.zeroValue4
 t9:=Tryd.underlying9
 a9:=Tryd.isAgg9
 z9:=Tryd.sizeOf9
 v9:=Tryd.zeroValue9
 t20:=Tryd.underlying20
 a20:=Tryd.isAgg20
 z20:=Tryd.sizeOf20
 v20:=Tryd.zeroValue20
 t31:=Tryd.underlying80
 a31:=Tryd.isAgg80
 z31:=Tryd.sizeOf80
 v31:=Tryd.zeroValue80
 t37:=Tryd.underlying28
 a37:=Tryd.isAgg28
 z37:=Tryd.sizeOf28
 v37:=Tryd.zeroValue28
 t70:=Tryd.underlying118
 a70:=Tryd.isAgg118
 z70:=Tryd.sizeOf118
 v70:=Tryd.zeroValue118
 t72:=Tryd.underlying120
 a72:=Tryd.isAgg120
 z72:=Tryd.sizeOf120
 v72:=Tryd.zeroValue120
 t75:=Tryd.underlying122
 a75:=Tryd.isAgg122
 z75:=Tryd.sizeOf122
 v75:=Tryd.zeroValue122
 t76:=Tryd.underlying123
 a76:=Tryd.isAgg123
 z76:=Tryd.sizeOf123
 v76:=Tryd.zeroValue123
 t127:=Tryd.underlying150
 a127:=Tryd.isAgg150
 z127:=Tryd.sizeOf150
 v127:=Tryd.zeroValue150
 t164:=Tryd.underlying169
 a164:=Tryd.isAgg169
 z164:=Tryd.sizeOf169
 v164:=Tryd.zeroValue169 }
theorem Tryd.Builder_Extra_156:Builder.Extra Tryd.prog Tryd.lays156_ren:={
 sizeBuilder:=by kernel_rfl
 liesBuilder:=by kernel_rfl
 t5:=Tryd.underlying5
 a5:=Tryd.isAgg5
 z5:=Tryd.sizeOf5
 v5:=Tryd.zeroValue5
 infoByte:=by kernel_rfl
 cellsByte:=by kernel_rfl
 sizeByte:=by kernel_rfl
 neB5:=by decide }
open Go.RowKit in
theorem Tryd.strings_Join_none (a:Option Addr) (c:Nat) (sep:ByteArray) (w:World) :
 Calls Tryd.prog 42 #[.slice a 0 c,.string sep] w fun e w'=>e=.returned (.string ⟨#[]⟩)∧w'=w:=Any.strings_Join_none Tryd.lays156 Tryd.Builder_Extra_156 a c sep w
open Go.RowKit in
theorem Tryd.strings_Join (bk o c:Nat) (xs:List ByteArray) (sep:ByteArray) (w:World) (hcells:∀ (j:Nat) x,xs[j]?=some x→w.cell? ⟨bk,o+j,none⟩=some (.string x)) (hbk:bk < w.heap.size) (hN:xs.length≤140737488355328) (hcap:xs.length≤c) (hlen:(Lib.join (xs.map (·.data.toList)) sep.data.toList).length≤140737488355328) :
 Calls Tryd.prog 42 #[.slice (some ⟨bk,o,none⟩) xs.length c,.string sep] w fun e w'=>e=.returned (.string ⟨(Lib.join (xs.map (·.data.toList)) sep.data.toList).toArray⟩)∧Below w.heap.size w w':=Any.strings_Join Tryd.lays156 Tryd.Builder_Extra_156 bk o c xs sep w hcells hbk hN hcap hlen
open Go.RowKit in
theorem Tryd.Builder_Grow_fresh_cap (B b n:Nat) (w:World) (hB:B≤b) (hbk:w.heap[b]?=some (.cells #[.pointer none,.slice none 0 0] 120 (0,0))) (hBw:B≤w.heap.size) (hn:n≤281474976710656) :
 Calls Tryd.prog 67 #[.pointer (some ⟨b,0,none⟩),.int .i64 n] w fun e w'=>e=.returned (.tuple #[])∧(Lib.BuilderAt 120 5 B b (.pointer (some ⟨b,0,none⟩)) [] w'∧Below B w w')∧∃ p cap,w'.cell? ⟨b,1,none⟩=some (.slice p 0 cap)∧n≤cap:=Any.Builder_Grow_fresh_cap Tryd.lays165 Tryd.Builder_Extra_165 B b n w hB hbk hBw hn
def Tryd.lays129_ren:Go.Shelf.Ren:=⟨fun|129=>113|n=>n,fun|53=>90|3=>3|4=>4|46=>180|5=>5|9=>9|n=>n,fun|n=>n⟩
theorem Tryd.lays129:Go.Proofs.Lays.n129 Tryd.prog Tryd.lays129_ren:={
 mixed:=by kernel_rfl
 f129:=Tryd.func113.trans (congrArg some (by kernel_rfl))
 t3:=Tryd.underlying3
 a3:=Tryd.isAgg3
 z3:=Tryd.sizeOf3
 v3:=Tryd.zeroValue3
 t4:=Tryd.underlying4
 a4:=Tryd.isAgg4
 z4:=Tryd.sizeOf4
 v4:=Tryd.zeroValue4
 t5:=Tryd.underlying5
 a5:=Tryd.isAgg5
 z5:=Tryd.sizeOf5
 v5:=Tryd.zeroValue5
 t9:=Tryd.underlying9
 a9:=Tryd.isAgg9
 z9:=Tryd.sizeOf9
 v9:=Tryd.zeroValue9
 t46:=Tryd.underlying180
 a46:=Tryd.isAgg180
 z46:=Tryd.sizeOf180
 v46:=Tryd.zeroValue180
 t53:=Tryd.underlying90
 a53:=Tryd.isAgg90
 z53:=Tryd.sizeOf90
 v53:=Tryd.zeroValue90 }
theorem Tryd.bits_Len64 (x:Int) (w:World) (h0:0≤x) (h1:x≤18446744073709551615) :
 Calls Tryd.prog 113 #[.int .u64 x] w fun e w'=>e=.returned (.int .i64 (Lib.bitLen x.toNat))∧w'=w:=Any.bits_Len64 Tryd.lays129 x w h0 h1
def Tryd.lays317_ren:Go.Shelf.Ren:=⟨fun|317=>112|n=>n,fun|3=>3|46=>180|n=>n,fun|n=>n⟩
theorem Tryd.lays317:Go.Proofs.Lays.n317 Tryd.prog Tryd.lays317_ren:={
 mixed:=by kernel_rfl
 f317:=Tryd.func112.trans (congrArg some (by kernel_rfl))
 t3:=Tryd.underlying3
 a3:=Tryd.isAgg3
 z3:=Tryd.sizeOf3
 v3:=Tryd.zeroValue3
 t46:=Tryd.underlying180
 a46:=Tryd.isAgg180
 z46:=Tryd.sizeOf180
 v46:=Tryd.zeroValue180 }
open Go.Lib in
theorem Tryd.internal_strconv_log10Pow2 (x:Nat) (h:x≤64) (w:World) :
 Calls Tryd.prog 112 #[.int .i64 x] w fun e w'=>e=.returned (.int .i64 (Lib.l10 x))∧w'=w:=Any.internal_strconv_log10Pow2 Tryd.lays317 x h w
def Tryd.lays318_ren:Go.Shelf.Ren:=⟨fun|318=>114|n=>n,fun|3=>3|4=>4|n=>n,fun|n=>n⟩
theorem Tryd.lays318:Go.Proofs.Lays.n318 Tryd.prog Tryd.lays318_ren:={
 mixed:=by kernel_rfl
 f318:=Tryd.func114.trans (congrArg some (by kernel_rfl))
 t3:=Tryd.underlying3
 a3:=Tryd.isAgg3
 z3:=Tryd.sizeOf3
 v3:=Tryd.zeroValue3
 t4:=Tryd.underlying4
 a4:=Tryd.isAgg4
 z4:=Tryd.sizeOf4
 v4:=Tryd.zeroValue4 }
open Go.Lib in
theorem Tryd.internal_strconv_bool2_int (b:Bool) (w:World) :
 Calls Tryd.prog 114 #[.bool b] w fun e w'=>e=.returned (.int .i64 (if b then 1 else 0))∧w'=w:=Any.internal_strconv_bool2_int Tryd.lays318 b w
def Tryd.lays283_ren:Go.Shelf.Ren:=⟨fun|283=>101|n=>n,fun|3=>3|9=>9|4=>4|n=>n,fun|n=>n⟩
theorem Tryd.lays283:Go.Proofs.Lays.n283 Tryd.prog Tryd.lays283_ren:={
 mixed:=by kernel_rfl
 f283:=Tryd.func101.trans (congrArg some (by kernel_rfl))
 t3:=Tryd.underlying3
 a3:=Tryd.isAgg3
 z3:=Tryd.sizeOf3
 v3:=Tryd.zeroValue3
 t4:=Tryd.underlying4
 a4:=Tryd.isAgg4
 z4:=Tryd.sizeOf4
 v4:=Tryd.zeroValue4
 t9:=Tryd.underlying9
 a9:=Tryd.isAgg9
 z9:=Tryd.sizeOf9
 v9:=Tryd.zeroValue9 }
open Go.Lib in
theorem Tryd.internal_strconv_small (i:Nat) (h:i < 100) (w:World) :
 Calls Tryd.prog 101 #[.int .i64 i] w fun e w'=>e=.returned (.string ⟨(Lib.decDigits i).toArray⟩)∧w'=w:=Any.internal_strconv_small Tryd.lays283 i h w
def Tryd.laysM284_ren:Go.Shelf.Ren:=⟨fun|284=>102|129=>113|317=>112|318=>114|n=>n,fun|53=>90|3=>3|212=>177|0=>0|4=>4|46=>180|5=>5|9=>9|n=>n,fun|17=>1|n=>n⟩
open Go.Lib in
def Tryd.lays285_ren:Go.Shelf.Ren:=⟨fun|285=>103|n=>n,fun|37=>28|53=>90|3=>3|4=>4|51=>178|9=>9|5=>5|0=>0|n=>n,fun|n=>n⟩
open Go.RowKit Go.Sort Go.Lib in
def Tryd.laysM246_ren:Go.Shelf.Ren:=⟨fun|246=>87|283=>101|284=>102|285=>103|286=>104|129=>113|317=>112|318=>114|319=>115|320=>116|337=>118|338=>119|n=>n,fun|2=>2|3=>3|9=>9|4=>4|171=>164|0=>0|53=>90|37=>28|5=>5|173=>167|212=>177|51=>178|20=>20|213=>179|46=>180|232=>184|233=>185|n=>n,fun|17=>1|18=>3|19=>4|n=>n⟩
open Go.RowKit Go.Sort Go.Lib in
def Tryd.lays246_ren:Go.Shelf.Ren:=⟨fun|246=>87|283=>101|284=>102|285=>103|286=>104|129=>113|317=>112|318=>114|319=>115|320=>116|337=>118|338=>119|n=>n,fun|2=>2|3=>3|9=>9|4=>4|171=>164|0=>0|53=>90|37=>28|5=>5|173=>167|212=>177|51=>178|20=>20|213=>179|46=>180|232=>184|233=>185|n=>n,fun|17=>1|18=>3|19=>4|n=>n⟩
open Go.RowKit Go.Sort Go.Lib in
def Tryd.laysM243_ren:Go.Shelf.Ren:=⟨fun|243=>65|246=>87|283=>101|284=>102|285=>103|286=>104|129=>113|317=>112|318=>114|319=>115|320=>116|337=>118|338=>119|n=>n,fun|3=>3|9=>9|2=>2|4=>4|171=>164|0=>0|53=>90|37=>28|5=>5|173=>167|212=>177|51=>178|20=>20|213=>179|46=>180|232=>184|233=>185|n=>n,fun|17=>1|18=>3|19=>4|n=>n⟩
open Go.RowKit Go.Sort Go.Lib in
def Tryd.lays243_ren:Go.Shelf.Ren:=⟨fun|243=>65|246=>87|283=>101|284=>102|285=>103|286=>104|129=>113|317=>112|318=>114|319=>115|320=>116|337=>118|338=>119|n=>n,fun|3=>3|9=>9|2=>2|4=>4|171=>164|0=>0|53=>90|37=>28|5=>5|173=>167|212=>177|51=>178|20=>20|213=>179|46=>180|232=>184|233=>185|n=>n,fun|17=>1|18=>3|19=>4|n=>n⟩
open Go.RowKit Go.Sort Go.Lib in
def Tryd.laysM171_ren:Go.Shelf.Ren:=⟨fun|171=>39|243=>65|246=>87|283=>101|284=>102|285=>103|286=>104|129=>113|317=>112|318=>114|319=>115|320=>116|337=>118|338=>119|n=>n,fun|3=>3|9=>9|2=>2|4=>4|171=>164|0=>0|53=>90|37=>28|5=>5|173=>167|212=>177|51=>178|20=>20|213=>179|46=>180|232=>184|233=>185|n=>n,fun|17=>1|18=>3|19=>4|n=>n⟩
open Go.RowKit Go.Sort Go.Lib in
def Tryd.lays171_ren:Go.Shelf.Ren:=⟨fun|171=>39|243=>65|246=>87|283=>101|284=>102|285=>103|286=>104|129=>113|317=>112|318=>114|319=>115|320=>116|337=>118|338=>119|n=>n,fun|3=>3|9=>9|2=>2|4=>4|171=>164|0=>0|53=>90|37=>28|5=>5|173=>167|212=>177|51=>178|20=>20|213=>179|46=>180|232=>184|233=>185|n=>n,fun|17=>1|18=>3|19=>4|n=>n⟩
open Go.RowKit Go.Sort Go.Lib in
def Tryd.laysM173_ren:Go.Shelf.Ren:=⟨fun|173=>66|246=>87|283=>101|284=>102|285=>103|286=>104|129=>113|317=>112|318=>114|319=>115|320=>116|337=>118|338=>119|n=>n,fun|2=>2|3=>3|9=>9|4=>4|171=>164|0=>0|53=>90|37=>28|5=>5|173=>167|212=>177|51=>178|20=>20|213=>179|46=>180|232=>184|233=>185|n=>n,fun|17=>1|18=>3|19=>4|n=>n⟩
open Go.RowKit Go.Sort Go.Lib in
def Tryd.lays173_ren:Go.Shelf.Ren:=⟨fun|173=>66|246=>87|283=>101|284=>102|285=>103|286=>104|129=>113|317=>112|318=>114|319=>115|320=>116|337=>118|338=>119|n=>n,fun|2=>2|3=>3|9=>9|4=>4|171=>164|0=>0|53=>90|37=>28|5=>5|173=>167|212=>177|51=>178|20=>20|213=>179|46=>180|232=>184|233=>185|n=>n,fun|17=>1|18=>3|19=>4|n=>n⟩
end Go.Proofs
namespace Go.Proofs.YtjhloakacicdiaaDoor
open Go.AH
attribute [local irreducible] W RS
theorem old_one {h B H:Hp} {a:Nat} (o:Old h B) (ho:OffS (fun i=>i=a) B H) (ha:h.n≤a):Old h H :=
 ⟨Nat.le_trans o.1 ho.1,fun i hi=>by rw [ho.2 i (Nat.lt_of_lt_of_le hi o.1) (fun e=>by omega),o.2 i hi]⟩
theorem fourS_length (off:Nat) (x:Nat × Nat × List Int):(fourS off x).2.2.length=x.2.2.length:=by unfold fourS;split<;>simp
theorem twoT_length (off:Nat) (x:Nat × Nat × List Int):(twoT off x).2.2.length=x.2.2.length:=by unfold twoT;split<;>simp
theorem oneT_length (off:Nat) (x:Nat × Nat × List Int):(oneT off x).length=x.2.2.length:=by unfold oneT;split<;>simp
theorem loopS_length:∀ (k off i u:Nat) (d:List Int),(loopS k off i u d).2.2.length=d.length
 | 0,_,_,_,_=>rfl
 | k+1,off,i,u,d=>by
  rw [loopS]
  split
  ·rw [loopS_length k,eightS_length]
  ·rfl
theorem fmtS_length (off N u:Nat) (d:List Int):(fmtS off N u d).length=d.length:=by
 unfold fmtS
 rw [oneT_length,twoT_length,fourS_length,loopS_length]
theorem len64_tf (x:Nat) (hx:x≤18446744073709551615) (h:Hp):TF Tryd.prog 113 ⟨[.int .u64 (x:Int)]⟩ h (.int .i64 ((Lib.bitLen x:Nat):Int)) h :=
 TF.of_same (by simp) (by simp) fun _ W _=>by
  have:=Tryd.bits_Len64 (x:Int) W (by omega) (by omega)
  simpa using this
theorem l10_tf (x:Nat) (hx:x≤64) (h:Hp):TF Tryd.prog 112 ⟨[.int .i64 (x:Int)]⟩ h (.int .i64 ((Lib.l10 x:Nat):Int)) h :=
 TF.of_same (by simp) (by simp) fun _ W _=>Tryd.internal_strconv_log10Pow2 x hx W
theorem bool2_tf (b:Bool) (h:Hp):TF Tryd.prog 114 ⟨[.bool b]⟩ h (.int .i64 (if b then 1 else 0)) h :=
 TF.of_same (by simp) (by simp) fun _ W _=>Tryd.internal_strconv_bool2_int b W
theorem smallN_tf (i:Nat) (hi:i < 100) (h:Hp):TF Tryd.prog 101 ⟨[.int .i64 (i:Int)]⟩ h (.string ⟨(Lib.decDigits i).toArray⟩) h :=
 TF.of_same (by simp) (by simp) fun _ W _=>Tryd.internal_strconv_small i hi W
def GT (h:Hp):Prop:=∃ e,h.m 1=some ⟨⟨Lib.pow10Tab.map (Value.int .u64)⟩,e⟩
theorem GT.up {h H:Hp} (g:GT h) (hu:∀ i b,h.m i=some b→H.m i=some b):GT H:=by
 obtain ⟨e,he⟩:=g
 exact ⟨e,hu _ _ he⟩
theorem pow_at {m:Nat} (hm:m < 20):(Lib.pow10Tab.map (Value.int .u64))[0+m * 1]?=some (.int .u64 ((10 ^ m:Nat):Int)):=by
 simp only [Lib.pow10Tab,Nat.zero_add,Nat.mul_one,List.getElem?_map,List.getElem?_range hm,Option.map_some]
def digS (u:Nat):Nat:=Lib.l10 (Lib.bitLen u)+(if 10 ^ Lib.l10 (Lib.bitLen u)≤u then 1 else 0)
theorem bitLen_64 {u:Nat} (hu:u≤18446744073709551615):Lib.bitLen u≤64:=Lib.bitLen_le u 64 (Nat.le_refl _) (by omega)
theorem l10_19 {x:Nat} (hx:x≤64):Lib.l10 x≤19:=by unfold Lib.l10;omega
theorem digS_le {u:Nat} (hu:u≤18446744073709551615):digS u≤20:=by
 have:=l10_19 (bitLen_64 hu)
 unfold digS;split<;>omega
theorem numDigits_tf (u:Nat) (hu:u≤18446744073709551615) (h:Hp) (hg:GT h):TF Tryd.prog 102 ⟨[.int .u64 (u:Int)]⟩ h (.int .i64 ((digS u:Nat):Int)) h:=by
 obtain ⟨e,hG⟩:=hg
 refine TF.dom fun hd=>?_
 have hGn:=hd _ _ hG
 have h19:=l10_19 (bitLen_64 hu)
 have hat:=pow_at (m:=Lib.l10 (Lib.bitLen u)) (by omega)
 unfold digS
 generalize 10 ^ Lib.l10 (Lib.bitLen u)=t at *
 refine TF.exact (fn:=Tryd.f102) (c:=(Tryd.f102.body.getD .skip)) Tryd.func102 (by kernel_rfl) Tryd.ntmps102 (by kernel_rfl) (fun s0=>⟨Nat.le_refl _,by simp,fun i b hb=>⟨s0.dom i b hb,s0.bd i b hb⟩⟩) fun π s0=>?_
 conv=>arg 2;whnf
 by_cases hc:t≤u
 ·repeat (first|refine Y4x ?_|refine Y4o ?_|((with_reducible apply (RS.callA (g0:=114)));(iterate 3 exact rfl);exact fun B' _=>bool2_tf _ B')|((with_reducible apply RS.indexAddrArr);(iterate 4 exact rfl);omega)|((with_reducible apply RS.load1B);(iterate 3 exact rfl);exact hG;exact hGn;exact hat)|refine Yh ?_|refine Y3 ?_|refine Yd ?_|refine Y0 ?_|refine Y1j ?_|refine Y1 ?_)
  exact endsK_ret _ (.cons (.tmp rfl) .nil) fun B' y=>⟨by rw [if_pos hc];rfl,fun j x hj=>y.up _ _ hj⟩
 ·repeat (first|refine Y4x ?_|refine Y4o ?_|((with_reducible apply (RS.callA (g0:=114)));(iterate 3 exact rfl);exact fun B' _=>bool2_tf _ B')|((with_reducible apply RS.indexAddrArr);(iterate 4 exact rfl);omega)|((with_reducible apply RS.load1B);(iterate 3 exact rfl);exact hG;exact hGn;exact hat)|refine Yh ?_|refine Y2 ?_|refine Yu ?_|refine Y0 ?_|refine Y1j ?_|refine Y1 ?_)
  exact endsK_ret _ (.cons (.tmp rfl) .nil) fun B' y=>⟨by rw [if_neg hc];rfl,fun j x hj=>y.up _ _ hj⟩
def byB (d:List Int):ByteArray:=⟨(d.map fun z=>UInt8.ofNat z.toNat).toArray⟩
def itoaS (n:Int):ByteArray :=
 if 0≤n∧n < 100 then ⟨(Lib.decDigits n.toNat).toArray⟩
 else if n < 0 then byB ((((fmtS 1 (digS n.natAbs) n.natAbs (List.replicate 24 0)).set 0 45).drop 0).take (1+digS n.natAbs))
 else byB (((fmtS 1 (digS n.natAbs) n.natAbs (List.replicate 24 0)).drop 1).take (digS n.natAbs))
theorem neg64 {n:Int} (h0:-9223372036854775808≤n) (h1:n < 0):IntKind.u64.wrap (0 - IntKind.u64.wrap n)=((n.natAbs:Nat):Int):=by
 simp only [IntKind.wrap,IntKind.signed,IntKind.bits];simp;omega
theorem pos64 {n:Int} (h0:0≤n) (h1:n≤9223372036854775807):IntKind.u64.wrap n=((n.natAbs:Nat):Int):=by
 simp only [IntKind.wrap,IntKind.signed,IntKind.bits];simp;omega
theorem RS.convTo {P:Program} {ops:Array Oper} {draw:Bool} {rs:List Rk} {l:List Oper} {fl:List (Nat × Value)} {nt:Nat} {h:SH} {K:Fr→SH→Prop} {d:Tmp} {ty:TypeId} {pos:String} {af:Array Edge} {gd:Option (Nat × Bool)} {t t':TypeId} {x:Operand} {k k0 k':IntKind} {n:Int} (m:Nat) [hu:TyU P t (.int k)] [hu':TyU P t' (.int k')] (hw:wantB ops ⟨some d,.convert t t' x,ty,pos,af,gd⟩ ⟨fl,nt⟩=some true) (hd:Nat.blt d nt=true) (hx:Fr.ev ⟨fl,nt⟩ x=some (.int k0 n)) (hv:k'.wrap n=(m:Int))
 (hk:RS P ops draw (recP h.k false [] (some [])::rs) l ⟨(d,.int k' (m:Int))::fl,nt⟩ h K):RS P ops draw rs (⟨some d,.convert t t' x,ty,pos,af,gd⟩::l) ⟨fl,nt⟩ h K:=by
 rw [← hv] at hk;exact RS.convI hw hd hx hk
set_option maxRecDepth 100000 in
set_option maxHeartbeats 0 in
theorem fmtInt_ex (n:Int) (hn:fitI n) (h:Hp) (hg:GT h):EX Tryd.prog 87 [.int .i64 n,.int .i64 10] h (fun v h'=>v=.string (itoaS n)∧Old h h'):=by
 obtain ⟨n0,n1⟩:=hn
 have hk20:digS n.natAbs≤20:=digS_le (by omega)
 by_cases hs:0≤n∧n < 100
 ·have hSm:∀ B',TF Tryd.prog 101 ⟨[.int .i64 n]⟩ B' (.string ⟨(Lib.decDigits n.toNat).toArray⟩) B':=fun B'=>by
   have:=smallN_tf n.toNat (by omega) B'
   rwa [Int.toNat_of_nonneg hs.1] at this
  refine EX.intro (fn:=Tryd.f87) (c:=(Tryd.f87.body.getD .skip)) Tryd.func87 (by kernel_rfl) Tryd.ntmps87 (by kernel_rfl) fun π s0=>?_
  conv=>arg 2;whnf
  repeat (first|((with_reducible apply (RS.callA (g0:=101)));(iterate 3 exact rfl);exact fun B' _=>hSm B')|refine Yh ?_|refine Yk ?_|refine Y3 ?_|refine Ym ?_|refine Y0 ?_|refine Y1z ?_|refine Y1 ?_|refine Y5 ?_)
  exact endsK_ret _ (.cons (.tmp rfl) .nil) fun B' y=>⟨by rw [itoaS,if_pos hs];rfl,y.oldH⟩
 ·by_cases hneg:n < 0
  ·skip
   refine EX.intro (fn:=Tryd.f87) (c:=(Tryd.f87.body.getD .skip)) Tryd.func87 (by kernel_rfl) Tryd.ntmps87 (by kernel_rfl) fun π s0=>?_
   conv=>arg 2;whnf
   ((with_reducible apply W.seq);repeat (first|refine Y15 ?_|refine Y0 ?_|refine Y1 ?_|refine Y13 ?_))
   ((with_reducible apply W.seq);repeat (fail))
   ((with_reducible apply W.seq);repeat (first|refine Y25 ?_|refine Ym ?_|refine Y0 ?_|refine Y1 ?_|refine Y5 ?_|refine Y13 ?_))
   ((with_reducible apply W.seq);repeat (fail))
   ((with_reducible apply W.seq);repeat (first|refine Y25 ?_|refine Yb ?_|refine Y2 ?_|refine Yn ?_|refine Y0 ?_|refine Y1 ?_|refine Y30 ?_|refine Y6 ?_))
   ((with_reducible apply W.seq);repeat (first|refine Yf ?_|refine Y0 ?_|refine Y1 ?_|refine Y13 ?_))
   refine W.absorbX fun B π1 a1=>?_
   have hA:B.m (π 0)=some ⟨⟨u8s (List.replicate 24 0)⟩,164⟩:=a1.loc 0 (by decide:(0:Nat) < 1)
   have hq0:h.n≤π 0:=a1.lo 0 (by decide:(0:Nat) < 1)
   generalize π 0=q at *
   have haw:rwM≤q:=Nat.le_trans s0.rw hq0
   have hgB:=hg.up a1.up
   repeat (first|((with_reducible apply (RS.negN n.natAbs));(iterate 3 exact rfl);exact neg64 (by omega) (by omega))|refine Y3s ?_|refine Y3c ?_|((with_reducible apply (RS.callEx (g0:=103)));(iterate 3 exact rfl);intro B1 hB1;refine ⟨_,fb10_ex q _ _ _ n.natAbs (List.replicate 24 0) 164 (by omega) (by omega) (by rw [List.length_replicate];omega) B1 (hB1.up _ _ hA) haw,?_⟩;rintro v H2 π2 ⟨rfl,hA2,ho2⟩ sH2 hle2)|((with_reducible apply (RS.indexAddrArr (m:=0)));(iterate 4 exact rfl);omega)|refine Y14 ?_|refine Y3 ?_|refine Yu ?_|refine Y0 ?_|refine Y3y ?_|refine Y1 ?_|refine Y5 ?_)
   have hAn2:=sH2.dom _ _ hA2
   repeat (first|((with_reducible apply (RS.sliceArr (l0:=0) (h0:=1+digS n.natAbs)));(iterate 4 exact rfl);exact ⟨_,_,rfl,rfl⟩;omega;omega;omega;exact of_decide_eq_true rfl)|((with_reducible apply RS.storeB);(iterate 3 exact rfl);exact hA2;exact hAn2;exact haw;(simp only [u8s,List.length_map,fmtS_length,List.length_replicate];omega);(iterate 2 exact rfl);exact setL_u8s _ _ _)|refine Y33 ?_|refine Yh ?_|refine Yu ?_|refine Y0 ?_|refine Y1z ?_|refine Y1 ?_)
   refine endsK_ret _ (.cons (.tmp rfl) .nil) fun B' y=>⟨?_,(old_one (a1.oldH.trans hB1.oldH) (set_offA ho2) hq0).trans y.oldH⟩
   rw [itoaS,if_neg hs,if_pos hneg]
   simp only [resultOf,byB,Nat.zero_add,Nat.mul_one,Nat.add_sub_cancel_left,Nat.sub_zero,Nat.add_zero,Nat.mul_zero,Nat.zero_mul]
  ·skip
   refine EX.intro (fn:=Tryd.f87) (c:=(Tryd.f87.body.getD .skip)) Tryd.func87 (by kernel_rfl) Tryd.ntmps87 (by kernel_rfl) fun π s0=>?_
   conv=>arg 2;whnf
   ((with_reducible apply W.seq);repeat (first|refine Y15 ?_|refine Y0 ?_|refine Y1 ?_|refine Y13 ?_))
   ((with_reducible apply W.seq);repeat (fail))
   ((with_reducible apply W.seq);repeat (first|refine Y25 ?_|refine Ym ?_|refine Y0 ?_|refine Y1 ?_|refine Y5 ?_|refine Y13 ?_))
   ((with_reducible apply W.seq);repeat (fail))
   ((with_reducible apply W.seq);repeat (first|refine Y25 ?_|refine Yk ?_|refine Y3 ?_|refine Y2 ?_|refine Y0 ?_|refine Y1 ?_|refine Y30 ?_|refine Y6 ?_))
   ((with_reducible apply W.seq);repeat (first|refine Yf ?_|refine Y0 ?_|refine Y1 ?_|refine Y13 ?_))
   refine W.absorbX fun B π1 a1=>?_
   have hA:B.m (π 0)=some ⟨⟨u8s (List.replicate 24 0)⟩,164⟩:=a1.loc 0 (by decide:(0:Nat) < 1)
   have hq0:h.n≤π 0:=a1.lo 0 (by decide:(0:Nat) < 1)
   generalize π 0=q at *
   have haw:rwM≤q:=Nat.le_trans s0.rw hq0
   have hgB:=hg.up a1.up
   repeat (first|((with_reducible apply (RS.convTo n.natAbs));(iterate 3 exact rfl);exact pos64 (by omega) (by omega))|refine Y3s ?_|refine Y3c ?_|((with_reducible apply (RS.callEx (g0:=103)));(iterate 3 exact rfl);intro B1 hB1;refine ⟨_,fb10_ex q _ _ _ n.natAbs (List.replicate 24 0) 164 (by omega) (by omega) (by rw [List.length_replicate];omega) B1 (hB1.up _ _ hA) haw,?_⟩;rintro v H2 π2 ⟨rfl,hA2,ho2⟩ sH2 hle2)|refine Yh ?_|refine Y2 ?_|refine Yu ?_|refine Y0 ?_|refine Y1u ?_|refine Y1 ?_|refine Y6 ?_)
   have hAn2:=sH2.dom _ _ hA2
   repeat (first|refine Y33 ?_|refine Y15 ?_|refine Y0 ?_|(with_reducible first|apply W.ret|apply thenK_n|apply thenK_r))
   refine endsK_ret _ (.cons (.tmp rfl) .nil) fun B' y=>⟨?_,(old_one (a1.oldH.trans hB1.oldH) (ho2) hq0).trans y.oldH⟩
   rw [itoaS,if_neg hs,if_neg hneg]
   simp only [resultOf,byB,Nat.zero_add,Nat.mul_one,Nat.add_sub_cancel_left,Nat.sub_zero,Nat.add_zero,Nat.mul_zero,Nat.zero_mul]
theorem itoaI_ex (n:Int) (hn:fitI n) (h:Hp) (hg:GT h):EX Tryd.prog 65 [.int .i64 n] h (fun v h'=>v=.string (itoaS n)∧Old h h'):=by
 refine EX.intro (fn:=Tryd.f65) (c:=(Tryd.f65.body.getD .skip)) Tryd.func65 (by kernel_rfl) Tryd.ntmps65 (by kernel_rfl) fun π s0=>?_
 conv=>arg 2;whnf
 repeat (first|((with_reducible apply RS.callEx);(iterate 3 exact rfl);intro B1 hB1;refine ⟨_,fmtInt_ex n hn B1 (hg.up hB1.up),?_⟩;rintro v H2 π2 ⟨rfl,ho2⟩ sH2 hle2)|refine Yh ?_|refine Y0 ?_|refine Y1j ?_|refine Y1 ?_)
 exact endsK_ret _ (.cons (.tmp rfl) .nil) fun B' y=>⟨rfl,(hB1.oldH.trans ho2).trans y.oldH⟩
theorem fmt10_ex (n:Int) (hn:fitI n) (h:Hp) (hg:GT h):EX Tryd.prog 66 [.int .i64 n,.int .i64 10] h (fun v h'=>v=.string (itoaS n)∧Old h h'):=by
 refine EX.intro (fn:=Tryd.f66) (c:=(Tryd.f66.body.getD .skip)) Tryd.func66 (by kernel_rfl) Tryd.ntmps66 (by kernel_rfl) fun π s0=>?_
 conv=>arg 2;whnf
 repeat (first|((with_reducible apply RS.callEx);(iterate 3 exact rfl);intro B1 hB1;refine ⟨_,fmtInt_ex n hn B1 (hg.up hB1.up),?_⟩;rintro v H2 π2 ⟨rfl,ho2⟩ sH2 hle2)|refine Yh ?_|refine Y0 ?_|refine Y1j ?_|refine Y1 ?_)
 exact endsK_ret _ (.cons (.tmp rfl) .nil) fun B' y=>⟨rfl,(hB1.oldH.trans ho2).trans y.oldH⟩
theorem itoa_ex (n:Int) (hn:fitI n) (h:Hp) (hg:GT h):EX Tryd.prog 39 [.int .i64 n] h (fun v h'=>v=.string (itoaS n)∧Old h h'):=by
 refine EX.intro (fn:=Tryd.f39) (c:=(Tryd.f39.body.getD .skip)) Tryd.func39 (by kernel_rfl) Tryd.ntmps39 (by kernel_rfl) fun π s0=>?_
 conv=>arg 2;whnf
 repeat (first|((with_reducible apply RS.callEx);(iterate 3 exact rfl);intro B1 hB1;refine ⟨_,itoaI_ex n hn B1 (hg.up hB1.up),?_⟩;rintro v H2 π2 ⟨rfl,ho2⟩ sH2 hle2)|refine Yh ?_|refine Y0 ?_|refine Y1j ?_|refine Y1 ?_)
 exact endsK_ret _ (.cons (.tmp rfl) .nil) fun B' y=>⟨rfl,(hB1.oldH.trans ho2).trans y.oldH⟩
section
variable {P:Program}
theorem HOK.forget {G:Nat} {h h':Hp} {ρ ρ':Env} {W W':World} (o:HOK G h ρ W) (o':HOK G h' ρ' W') (hold:Old h h'):HOK G h ρ' W' where
 fits i b hb:=o'.fits i b ((hold.2 i (o.lt i b hb)).trans hb)
 lt:=o.lt
 inj i j b c hi hb hc he:=o'.inj i j b c hi ((hold.2 i (o.lt i b hb)).trans hb) ((hold.2 j (o.lt j c hc)).trans hc) he
 bd:=o.bd
 glob:=o'.glob
 gle:=o.gle
 gow:=o.gow
theorem Ext.forget {h h':Hp} {ρ ρ':Env} {W W':World} {G:Nat} (o:HOK G h ρ W) (E:Ext h h' ρ ρ' W W') (hold:Old h h'):Ext h h ρ ρ' W W' where
 agree:=E.agree
 mono:=Nat.le_refl _
 kept:=E.kept
 size:=E.size
 own i b hi hb _:=⟨i,b,hi,hb,((E.agree i (o.lt i b hb)).1).symm⟩
 tape:=E.tape
 os:=E.os
 output:=E.output
 surv i b' hi hb':=E.surv i b' hi ((hold.2 i hi).trans hb')
theorem TF.ofEX {g:FuncId} {args:List Value} {h:Hp} {v:Value} (hv:bnd 0 v) (he:EX P g args h (fun v' h'=>v'=v∧Old h h')):TF P g ⟨args⟩ h v h:=by
 intro hb ρ W ho
 obtain ⟨v',h',ht,rfl,hold⟩:=he ⟨ρ,W,ho⟩ (fun x hx=>hb x (by simpa using hx))
 refine (ht hb ρ W ho).mono ?_
 rintro e W' ⟨ρ',he,_,ho',E⟩
 exact ⟨ρ',he,bnd_mono (Nat.zero_le _) _ hv,HOK.forget ho ho' hold,Ext.forget ho E hold⟩
theorem HOK.below {G:Nat} {h:Hp} {ρ:Env} {W W':World} (o:HOK G h ρ W) (hB:RowKit.Below W.heap.size W W'):HOK G h ρ W' where
 fits i b hb:=by rw [hB.block _ (o.fits i b hb).lt];exact o.fits i b hb
 lt:=o.lt
 inj:=o.inj
 bd:=o.bd
 glob:=o.glob
 gle:=o.gle
 gow:=o.gow
theorem Ext.below {G:Nat} {h:Hp} {ρ:Env} {W W':World} (o:HOK G h ρ W) (hB:RowKit.Below W.heap.size W W'):Ext h h ρ ρ W W' where
 agree _ _:=⟨rfl,rfl,rfl⟩
 mono:=Nat.le_refl _
 kept c hc _:=hB.block c hc
 size:=hB.size
 own i b hi hb _:=⟨i,b,hi,hb,rfl⟩
 tape:=hB.tape
 os:=hB.os
 output:=hB.output
 surv i b' _ hb':=⟨b',hb',Nat.le_refl _,by rw [hB.block _ (o.fits i b' hb').lt];exact .refl _ _⟩
theorem TF.of_below {g:FuncId} {args:Array Value} {v:Value} {h:Hp} (hv:bnd 0 v) (hc:∀ ρ W,HOK P.globals.size h ρ W→Calls P g (args.map (ren ρ)) W fun e W'=>e=.returned v∧RowKit.Below W.heap.size W W'):TF P g args h v h:=by
 intro _ ρ W ho
 refine (hc ρ W ho).mono ?_
 rintro e W' ⟨he,hB⟩
 exact ⟨ρ,by rw [ren_free ρ v hv];exact he,bnd_mono (Nat.zero_le _) _ hv,HOK.below ho hB,Ext.below ho hB⟩
end
theorem itoa_tf (n:Int) (hn:fitI n) (h:Hp) (hg:GT h):TF Tryd.prog 39 ⟨[.int .i64 n]⟩ h (.string (itoaS n)) h:=TF.ofEX (by simp) (itoa_ex n hn h hg)
theorem fmt10_tf (n:Int) (hn:fitI n) (h:Hp) (hg:GT h):TF Tryd.prog 66 ⟨[.int .i64 n,.int .i64 10]⟩ h (.string (itoaS n)) h:=TF.ofEX (by simp) (fmt10_ex n hn h hg)
def linesS (xs:List ByteArray) (sep:ByteArray):ByteArray:=⟨(Lib.join (xs.map (·.data.toList)) sep.data.toList).toArray⟩
theorem sjoinNone_tf (sep:ByteArray) (c:Nat) (h:Hp):TF Tryd.prog 42 ⟨[.slice none 0 c,.string sep]⟩ h (.string (linesS [] sep)) h :=
 TF.of_same (by simp) (by simp) fun _ W _=>Tryd.strings_Join_none none c sep W
theorem sjoinRow_tf (xs:List ByteArray) (sep:ByteArray) (b cap:Nat) (e:TypeId) (t:List Value) (h:Hp) (hm:h.m b=some ⟨⟨xs.map Value.string++t⟩,e⟩) (hb:rwM≤b) (hcp:cap=capOf 1∨(cap=xs.length+t.length∧cap < capMark)) (hN:xs.length≤140737488355328) (hlen:(Lib.join (xs.map (·.data.toList)) sep.data.toList).length≤140737488355328) :
 TF Tryd.prog 42 ⟨[.slice (some ⟨b,0,none⟩) xs.length cap,.string sep]⟩ h (.string (linesS xs sep)) h:=by
 refine TF.of_below (by simp) fun ρ W ho=>?_
 have hf:=ho.fits _ _ hm
 have hcap:=hf.szle hb
 have hc:xs.length≤renCap ρ ⟨b,0,none⟩ cap:=by
  rcases hcp with rfl|⟨h1,h2⟩
  ·have h1:renCap ρ ⟨b,0,none⟩ (capOf 1)=ρ.cap b:=by
    unfold renCap capOf
    rw [if_neg (by omega)]
    simp
   rw [h1]
   simp at hcap
   omega
  ·unfold renCap
   rw [if_pos h2]
   omega
 have hcells:∀ (j:Nat) x,xs[j]?=some x→W.cell? ⟨ρ.loc b,ρ.sh b+j,none⟩=some (.string x):=by
  intro j x hj
  have hjl:=(List.getElem?_eq_some_iff.1 hj).1
  have:=ho.cell (a:=⟨b,j,none⟩) hm rfl (v:=.string x) (by
   rw [List.getElem?_toArray,List.getElem?_append_left (by simpa using hjl)]
   simp [hj])
  simpa [renAddr,Nat.add_comm] using this
 have:=Tryd.strings_Join (ρ.loc b) (ρ.sh b) _ xs sep W hcells hf.lt hN hc hlen
 simpa [renAddr,linesS] using this
theorem base_upS {h H:Hp} (hd:∀ i b,h.m i=some b→i < h.n) (hH:∀ id,id < h.n→H.m id=h.m id):∀ i b,h.m i=some b→H.m i=some b:=fun i b hb=>by rw [hH i (hd i b hb)];exact hb
theorem dec_len:∀ i:Fin 100,(Lib.decDigits i.val).length≤24:=by decide +kernel
theorem itoaS_size (n:Int):(itoaS n).data.size≤24:=by
 unfold itoaS
 split
 ·rename_i h
  have:=dec_len ⟨n.toNat,by omega⟩
  simpa using this
 ·split
  ·simp only [byB,List.size_toArray,List.length_map]
   refine Nat.le_trans (List.length_take_le' _ _) ?_
   simp only [List.length_drop,List.length_set,fmtS_length,List.length_replicate]
   omega
  ·simp only [byB,List.size_toArray,List.length_map]
   refine Nat.le_trans (List.length_take_le' _ _) ?_
   simp only [List.length_drop,fmtS_length,List.length_replicate]
   omega
def argT (a:ArgS):ByteArray:=if a.reg < 0 then itoaS a.num else ⟨#[114]⟩++itoaS a.reg
theorem sarg_tf (a:ArgS) (ha:a.ok) (h:Hp) (hg:GT h):TF Tryd.prog 41 ⟨[.agg ⟨argC a⟩]⟩ h (.string (argT a)) h:=by
 refine TF.dom fun hd=>?_
 by_cases hr:a.reg < 0
 ·rw [argT,if_pos hr]
  refine TF.still (fn:=Tryd.f41) (c:=(Tryd.f41.body.getD .skip)) Tryd.func41 (by kernel_rfl) Tryd.ntmps41 (by kernel_rfl) (by simp) ?_
  conv=>arg 2;whnf
  repeat (first|((with_reducible apply RS.callB);(iterate 3 exact rfl);exact fun H hH=>(fmt10_tf _ ha.2 H (hg.up (base_upS hd hH)));exact Nm_free (by simp))|refine Y1a ?_|refine Y3 ?_|refine Y7 ?_|refine Y0 ?_|refine Y1z ?_|refine Y1 ?_|refine Y5 ?_)
  exact endsK_ret _ (.cons (.tmp rfl) .nil) ⟨rfl,rfl⟩
 ·rw [argT,if_neg hr]
  have hz:=itoaS_size a.reg
  refine TF.still (fn:=Tryd.f41) (c:=(Tryd.f41.body.getD .skip)) Tryd.func41 (by kernel_rfl) Tryd.ntmps41 (by kernel_rfl) (by simp) ?_
  conv=>arg 2;whnf
  repeat (first|((with_reducible apply RS.strAdd);(iterate 4 exact rfl);(simp only [ByteArray.size_append,ByteArray.size,List.size_toArray,List.length_cons,List.length_nil];omega))|((with_reducible apply RS.callB);(iterate 3 exact rfl);exact fun H hH=>(itoa_tf _ ha.1 H (hg.up (base_upS hd hH)));exact Nm_free (by simp))|refine Y1a ?_|refine Y2 ?_|refine Y7 ?_|refine Y0 ?_|refine Y2u ?_|refine Y1 ?_|refine Y6 ?_)
  exact endsK_ret _ (.cons (.tmp rfl) .nil) ⟨rfl,rfl⟩
def strV (l:List ByteArray):List Value:=l.map Value.string
def strL (l:List ByteArray):List (List Value):=l.map fun s=>[Value.string s]
theorem strL_flat (l:List ByteArray):(strL l).flatten=strV l:=by
 induction l with
 | nil=>rfl
 | cons a l ih =>
  show [Value.string a]++(strL l).flatten=_
  rw [ih];rfl
theorem strL_len (l:List ByteArray):(strL l).length=l.length:=List.length_map ..
theorem strL_wid (l:List ByteArray):∀ c∈strL l,c.length=1:=by
 intro c hc
 obtain ⟨a,_,rfl⟩:=List.mem_map.1 hc
 rfl
theorem strL_nil {l:List ByteArray}:strL l≠[]↔l≠[]:=by cases l<;>simp [strL]
theorem strL_snoc (l:List ByteArray) (s:ByteArray):strL (l++[s])=strL l++[[.string s]]:=by simp [strL]
theorem strV_app (a b:List ByteArray):strV (a++b)=strV a++strV b:=List.map_append
structure RowI (h0:Hp) (r:Nat) (L:List ByteArray) (B:Hp):Prop where
 old:Old h0 B
 row:L≠[]→h0.n≤r∧B.m r=some ⟨⟨strV L⟩,9⟩
theorem RowI.up {h0:Hp} {r:Nat} {L:List ByteArray} {B B':Hp} (s:RowI h0 r L B) (hd:∀ i b,B.m i=some b→i < B.n) (o:Old B B'):RowI h0 r L B' :=
 ⟨s.old.trans o,fun hn=>⟨(s.row hn).1,o.up hd _ _ (s.row hn).2⟩⟩
theorem RowI.nil {h0 B:Hp} (r:Nat) (o:Old h0 B):RowI h0 r [] B:=⟨o,fun h=>absurd rfl h⟩
section
variable {ops:Array Oper} {rs:List Rk} {l:List Oper} {fl:List (Nat × Value)} {nt:Nat} {K:Fr→SH→Prop} {d:Tmp} {ty:TypeId} {pos:String} {af:Array Edge} {gd:Option (Nat × Bool)}
theorem RS.pushStr {h:SH} {t:TypeId} {x y:Operand} {r q c:Nat} {L:List ByteArray} {s:ByteArray} {h0:Hp} {e3:TypeId} [hu:TyU Tryd.prog t (.slice 9)] (hw:wantB ops ⟨some d,.call { callee:=.builtin .append,args:=#[x,y],argTypes:=#[t,t] },ty,pos,af,gd⟩ ⟨fl,nt⟩=some true) (hd:Nat.blt d nt=true)
 (hx:Fr.ev ⟨fl,nt⟩ x=some (rowVl 1 r (strL L))) (hy:Fr.ev ⟨fl,nt⟩ y=some (.slice (some ⟨q,0,none⟩) 1 c)) (h0w:rwM≤h0.n) (hI:RowI h0 r L h.base) (hq:∀ B,Absb (P:=Tryd.prog) h B→B.m q=some ⟨⟨[.string s]⟩,e3⟩) (hlen:L.length+1≤8000000000000)
 (hk:∀ r' H' π,Sat Tryd.prog H'→RowI h0 r' (L++[s]) H'→h.base.n≤r'→OffS (fun j=>j=r) h.base H' →
  RS Tryd.prog ops false (recP 0 false [] none::rs) l ⟨(d,rowVl 1 r' (strL (L++[s])))::fl,nt⟩ ⟨H',π,0,[]⟩ K):RS Tryd.prog ops false rs (⟨some d,.call { callee:=.builtin .append,args:=#[x,y],argTypes:=#[t,t] },ty,pos,af,gd⟩::l) ⟨fl,nt⟩ h K:=by
 refine RS.pushRow (e:=9) (L:=strL L) (v:=[.string s]) hw hd hx hy rfl rfl (fun B' a=>⟨hq B' a,fun hn=>?_⟩) (strL_wid L) rfl rfl (by rw [strL_len];omega) (by rw [strL_len];omega) fun B' a r' H' π sH hr hm hle hoff=>?_
 ·have:=(hI.up a.bdom ⟨a.le,a.old⟩).row (strL_nil.1 hn)
  rw [strL_flat]
  exact ⟨Nat.le_trans h0w this.1,this.2⟩
 ·have hI':=hI.up a.bdom ⟨a.le,a.old⟩
  rw [← strL_snoc]
  refine hk r' H' π sH ⟨⟨Nat.le_trans hI'.old.1 hle,fun i hi=>?_⟩,fun _=>⟨Nat.le_trans hI'.old.1 hr,?_⟩⟩ (Nat.le_trans a.le hr) ⟨Nat.le_trans a.le hle,fun i hi hn=>?_⟩
  ·rw [hoff i (Nat.lt_of_lt_of_le hi hI'.old.1) fun hn e=>?_,hI'.old.2 i hi]
   have:=(hI'.row (strL_nil.1 hn)).1
   omega
  ·rw [← strL_snoc,strL_flat] at hm;exact hm
  ·rw [hoff i (Nat.lt_of_lt_of_le hi a.le) fun _ e=>hn e,a.old i hi]
end
theorem RS.pushStrD {draw:Bool} {B:Hp} {π:Nat→Nat} {k:Nat} {hl:List (Nat × Option Blk)} {ops:Array Oper} {rs:List Rk} {l:List Oper} {fl:List (Nat × Value)} {nt:Nat} {K:Fr→SH→Prop} {d:Tmp} {ty:TypeId} {pos:String} {af:Array Edge} {gd:Option (Nat × Bool)} {t:TypeId} {x y:Operand} {r q c:Nat} {L:List ByteArray} {s:ByteArray} {e2:TypeId} [hu:TyU Tryd.prog t (.slice 9)] (hw:wantB ops ⟨some d,.call { callee:=.builtin .append,args:=#[x,y],argTypes:=#[t,t] },ty,pos,af,gd⟩ ⟨fl,nt⟩=some true) (hd:Nat.blt d nt=true)
 (hx:Fr.ev ⟨fl,nt⟩ x=some (rowVl 1 r (strL L))) (hy:Fr.ev ⟨fl,nt⟩ y=some (.slice (some ⟨π q,0,none⟩) 1 c)) (hL:L≠[]) (hrow:B.m r=some ⟨⟨strV L⟩,9⟩) (hrn:r < B.n) (hrr:rwM≤r) (hqk:q < k) (hbq:lookB hl q=some ⟨⟨[.string s]⟩,e2⟩) (hlen:L.length+1≤8000000000000)
 (hk:RS Tryd.prog ops draw (recGL k q::rs) l ⟨(d,rowVl 1 (π k) (strL (L++[s])))::fl,nt⟩ ⟨B.kill r,π,k+1,(k,some ⟨⟨strV (L++[s])⟩,9⟩)::hl⟩ K):RS Tryd.prog ops draw rs (⟨some d,.call { callee:=.builtin .append,args:=#[x,y],argTypes:=#[t,t] },ty,pos,af,gd⟩::l) ⟨fl,nt⟩ ⟨B,π,k,hl⟩ K:=by
 rw [rowVl_eq,strL_len,if_neg (strL_nil.2 hL),if_neg (strL_nil.2 hL)] at hx
 rw [rowVl_eq,strL_len,if_neg (strL_nil.2 (by simp)),if_neg (strL_nil.2 (by simp)),strV_app,List.length_append] at hk
 exact RS.growL (e:=9) hw hd hx hy rfl rfl hrow hrn hrr (by simp [strV]) hqk hbq rfl rfl (by omega) (by omega) hk
theorem sjoinL_tf (xs:List ByteArray) (sep:ByteArray) (r:Nat) (h h0:Hp) (hI:RowI h0 r xs h) (h0w:rwM≤h0.n) (hN:xs.length≤140737488355328) (hlen:(Lib.join (xs.map (·.data.toList)) sep.data.toList).length≤140737488355328) :
 TF Tryd.prog 42 ⟨[rowVl 1 r (strL xs),.string sep]⟩ h (.string (linesS xs sep)) h:=by
 cases xs with
 | nil=>exact sjoinNone_tf sep 0 h
 | cons a l =>
  have hm:=(hI.row (by simp)).2
  have:=sjoinRow_tf (a::l) sep r (capOf 1) 9 [] h (by rw [List.append_nil];exact hm) (Nat.le_trans h0w (hI.row (by simp)).1) (.inl rfl) hN hlen
  rw [rowVl_eq,strL_len,if_neg (by simp [strL]),if_neg (by simp [strL])]
  exact this
theorem join_le (xs:List ByteArray) (sep:ByteArray) (M:Nat) (h:∀ s∈xs,s.data.size≤M):(Lib.join (xs.map (·.data.toList)) sep.data.toList).length≤xs.length * (M+sep.data.size):=by
 cases xs with
 | nil=>simp [Lib.join_nil]
 | cons a l =>
  rw [List.map_cons,Lib.join_length]
  have hl:∀ l:List ByteArray,(∀ s∈l,s.data.size≤M)→Lib.lens (l.map (·.data.toList))≤l.length * M:=by
   intro l
   induction l with
   | nil=>intro _;simp [Lib.lens]
   | cons b l ih =>
    intro hb
    have h1:=ih fun s hs=>hb s (by simp [hs])
    have h2:=hb b (by simp)
    simp only [Lib.lens,List.map_cons,List.sum_cons,List.length_cons,Nat.succ_mul,Array.length_toList] at h1 ⊢
    omega
  have h3:=hl (a::l) h
  rw [List.map_cons] at h3
  rw [List.length_cons] at h3
  rw [List.length_map,Array.length_toList,Nat.mul_add,List.length_cons]
  have h4:sep.data.size * l.length≤(l.length+1) * sep.data.size:=by rw [Nat.mul_comm];exact Nat.mul_le_mul_right _ (by omega)
  omega
end Go.Proofs.YtjhloakacicdiaaDoor
