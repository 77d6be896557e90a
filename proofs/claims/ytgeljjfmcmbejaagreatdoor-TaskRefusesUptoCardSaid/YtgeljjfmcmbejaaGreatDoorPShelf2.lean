/- A part of the proof. -/
import Derived.Test.YtgeljjfmcmbejaaGreatDoorPT9
set_option linter.all false
set_option linter.deprecated false
open Go.Proofs.Tryz renaming prog→aa
set_option maxRecDepth 100000
set_option maxHeartbeats 4000000
namespace Go.Proofs
open Go.Shelf Go.RowKit Go.Sort Go.Lib
def Tryz.lays156_ren:Go.Shelf.Ren:=⟨λ|156=>43|165=>92|166=>93|169=>94|240=>141|241=>142|276=>232|277=>233|n=>n,λ|31=>110|9=>9|3=>3|4=>4|0=>0|20=>20|72=>183|76=>89|70=>181|37=>174|75=>88|127=>252|164=>312|5=>5|80=>185|n=>n,λ|n=>n⟩
def Tryz.lays156:Go.Proofs.Lays.n156 aa Tryz.lays156_ren:=qt
def Tryz.Builder_Extra_156:Builder.Extra aa Tryz.lays156_ren:=by constructor<;>first|kernel_rfl|(intro;kernel_rfl)|exact by decide|(constructor<;>first|kernel_rfl|(intro;kernel_rfl)|exact by decide)
open Go.RowKit in
def Tryz.strings_Join_none(a:Option Addr)(c:Nat)(s:ByteArray)(w:World):
  Calls aa 43 #[.slice a 0 c,.string s] w λe w'=>e= .returned (.string ⟨#[]⟩)/\w'=w:=Any.strings_Join_none Tryz.lays156 Tryz.Builder_Extra_156 a c s w
open Go.RowKit in
def Tryz.strings_Join(b o c:Nat)(xs:List ByteArray)(s:ByteArray)(w:World)(h:∀(j:Nat) x,xs[j]? =some x->w.cell? ⟨b,o+j,none⟩=some (.string x))(k:b<w.heap.size)(N:xs.length<=140737488355328)(p:xs.length<=c)(H:(Lib.join (xs.map (·.data.toList)) s.data.toList).length<=140737488355328):
  Calls aa 43 #[.slice (some ⟨b,o,none⟩) xs.length c,.string s] w λe w'=>e= .returned (.string ⟨(Lib.join (xs.map (·.data.toList)) s.data.toList).toArray⟩)/\Below w.heap.size w w':=Any.strings_Join Tryz.lays156 Tryz.Builder_Extra_156 b o c xs s w h k N p H
def Tryz.laysC172_ren:Go.Shelf.Ren:=⟨λ|172=>23|244=>40|245=>41|247=>86|279=>87|280=>88|281=>89|282=>90|287=>134|316=>135|171=>24|205=>136|321=>226|322=>227|243=>42|246=>91|283=>137|284=>138|285=>139|286=>140|129=>223|317=>228|318=>229|319=>230|320=>231|337=>320|338=>321|n=>n,λ|9=>9|3=>3|75=>88|76=>89|4=>4|5=>5|167=>173|37=>174|0=>0|85=>175|2=>2|168=>177|53=>129|175=>241|46=>238|210=>245|127=>252|145=>308|143=>306|21=>21|171=>247|173=>250|212=>310|51=>301|20=>20|213=>311|232=>412|233=>413|80=>185|n=>n,λ|15=>1|16=>2|17=>3|18=>4|19=>5|n=>n⟩
def Tryz.laysC172:Go.Proofs.LaysC.n172 aa Tryz.laysC172_ren:=qt
open Go.RowKit in
def Tryz.strconv_Atoi_ok(s:ByteArray)(H:s.size<=9223372036854775806)(v:Int)(h:Lib.atoiAll s.data.toList= .ok v)(w:World):
  Calls aa 23 #[.string s] w λe w'=>e= .returned (.tuple #[.int .i64 v,.nilIface])/\(w'=w\/∃t,w'=Lib.bytesWorld w 5 t):=Any.strconv_Atoi_ok Tryz.laysC172 s H v h w
open Go.RowKit in
def Tryz.laysM176_ren:Go.Shelf.Ren:=⟨λ|176=>149|249=>239|288=>324|283=>137|284=>138|285=>139|286=>140|129=>223|317=>228|318=>229|319=>230|320=>231|337=>320|338=>321|n=>n,λ|37=>174|2=>2|3=>3|53=>129|4=>4|9=>9|171=>247|0=>0|173=>250|212=>310|51=>301|5=>5|20=>20|213=>311|46=>238|232=>412|233=>413|n=>n,λ|17=>3|18=>4|19=>5|n=>n⟩
def Tryz.laysM176:Go.Proofs.LaysM.n176 aa Tryz.laysM176_ren:=qt
open Go.RowKit Go.Sort Go.Lib in
def Tryz.strconv_AppendInt_10(B n:Nat)(i:Int)(d:-9223372036854775808<=i)(b:i<=9223372036854775807)(s:Value)(xs:List Value)(w:World)(H:w.ownsRow B 5 1 s n xs)(a:B<=w.heap.size)(m:n+21<=140737488355328)(h:Lib.TabBelow aa B w "internal/strconv.uint64pow10" .u64 Lib.pow10Tab):
  Calls aa 149 #[s,.int .i64 i,.int .i64 10] w λe w'=>∃v,e= .returned v/\w'.ownsRow B 5 1 v (n+(Lib.itoa i).length) (xs++Lib.byteCells (Lib.itoa i))/\Below B w w'/\Lib.OthersKept 5 none w w':=Any.strconv_AppendInt_10 Tryz.laysM176 B n i d b s xs w H a m h
end Go.Proofs
