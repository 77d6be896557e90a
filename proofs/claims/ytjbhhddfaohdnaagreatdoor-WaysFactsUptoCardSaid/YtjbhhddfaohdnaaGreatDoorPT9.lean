/- A part of the proof. -/
import Derived.Shelf.Strings.Builder2
import Derived.Shelf.Small.Wraps
import Derived.Shelf.Strings.BuilderK
import Derived.Shelf.Utf8.RuneCount
import Derived.Shelf.Strconv.Itoa3
import Derived.Shelf.Strings.Shaped
import Derived.Shelf.Sort.Plain
import Derived.Shelf.Strings.Split
import Derived.Shelf.Strings.RuneCount
import Derived.Shelf.Slices.Cells
import Derived.Shelf.Slices.In.SortNone
import Derived.Shelf.Slices.Empties
import Derived.Test.YtjbhhddfaohdnaaGreatDoorPSort1
import Derived.Test.YtjbhhddfaohdnaaGreatDoorPSqi
set_option linter.all false
set_option linter.deprecated false
open Go.Lib renaming compact→aqf,compactUpTo→awG,keeps→auo,keeps_lt_one→awg,compact_length_le→asl
open Go.Proofs.Tryz renaming prog→aai,underlying0→apx,isAgg0→aqO,sizeOf0→aqz,zeroValue0→apE,underlying3→agr,isAgg3→aqP,sizeOf3→aqA,zeroValue3→apF,underlying9→ang,isAgg9→aqQ,sizeOf9→aqB,zeroValue9→apH,underlying311→ar9,sizeOf311→azm,zeroValue311→ayp,underlying5→aqG,isAgg5→asP,sizeOf5→asa,zeroValue5→ars,underlying4→apl,isAgg4→aqR,sizeOf4→aqC,zeroValue4→apI,func183→atp,underlying162→aq8,isAgg162→asx,sizeOf162→ar0,zeroValue162→arl,underlying201→aq9,isAgg201→asy,sizeOf201→ar1,zeroValue201→arn,underlying203→arD,isAgg203→as6,sizeOf203→asT,zeroValue203→arS,underlying27→ath,zeroValue27→awf,underlying158→asb,sizeOf158→atq,zeroValue158→asD,underlying194→asc,sizeOf194→atr,zeroValue194→asE,underlying195→ase,sizeOf195→att,zeroValue195→asF,underlying243→asf,sizeOf243→atu,zeroValue243→asG,underlying247→asg,sizeOf247→atv,zeroValue247→asH,underlying281→ash,sizeOf281→atw,zeroValue281→asI,underlying282→asi,sizeOf282→atx,zeroValue282→asJ,underlying82→avR,zeroValue82→ayQ
section
namespace Go.Proofs
open Go.Shelf
def Tryz.lays169_ren:Go.Shelf.Ren:=⟨fun | 169=>314 | n=>n,fun | 70=>310 | 9=>9 | 0=>0 | 72=>313 | 37=>311 | 127=>331 | 3=>3 | 5=>5 | n=>n,fun | n=>n⟩
theorem Tryz.lays169:Go.Proofs.Lays.n169 aai Tryz.lays169_ren:={
 mixed:=by kernel_rfl
 f169:=Tryz.func314.trans (congrArg some (by kernel_rfl))
 t0:=apx
 a0:=aqO
 z0:=aqz
 v0:=apE
 t3:=agr
 a3:=aqP
 z3:=aqA
 v3:=apF
 t9:=ang
 a9:=aqQ
 z9:=aqB
 v9:=apH
 t37:=ar9
 a37:=Tryz.isAgg311
 z37:=azm
 v37:=ayp
 t70:=Tryz.underlying310
 a70:=Tryz.isAgg310
 z70:=Tryz.sizeOf310
 v70:=Tryz.zeroValue310
 t72:=Tryz.underlying313
 a72:=Tryz.isAgg313
 z72:=Tryz.sizeOf313
 v72:=Tryz.zeroValue313
 t127:=Tryz.underlying331
 a127:=Tryz.isAgg331
 z127:=Tryz.sizeOf331
 v127:=Tryz.zeroValue331 }
theorem Tryz.Builder_Extra_169:Builder.Extra aai Tryz.lays169_ren:={
 sizeBuilder:=by kernel_rfl
 liesBuilder:=by kernel_rfl
 t5:=aqG
 a5:=asP
 z5:=asa
 v5:=ars
 infoByte:=by kernel_rfl
 cellsByte:=by kernel_rfl
 sizeByte:=by kernel_rfl
 neB5:=by decide }
open Go.RowKit in
theorem Tryz.Builder_String_any (B b:Nat) (l:List UInt8) (w:World) (h:Lib.IsBuilder 313 5 B b (Lib.byteCells l) w) (hBw:B≤w.heap.size):
  Calls aai 314 #[.pointer (some ⟨b,0,none⟩)] w fun e w'=>e = .returned (.string ⟨l.toArray⟩)∧Below B w w':=Any.Builder_String_any Tryz.lays169 Tryz.Builder_Extra_169 B b l w h hBw
def Tryz.lays121_ren:Go.Shelf.Ren:=⟨fun | 121=>257 | 214=>298 | n=>n,fun | 4=>4 | 9=>9 | n=>n,fun | n=>n⟩
theorem Tryz.lays121:Go.Proofs.Lays.n121 aai Tryz.lays121_ren:={
 mixed:=by kernel_rfl
 f121:=Tryz.func257.trans (congrArg some (by kernel_rfl))
 f214:=Tryz.func298.trans (congrArg some (by kernel_rfl))
 t4:=apl
 a4:=aqR
 z4:=aqC
 v4:=apI
 t9:=ang
 a9:=aqQ
 z9:=aqB
 v9:=apH }
open Go.RowKit in
theorem Tryz.strconv_FormatBool (b:Bool) (w:World):
  Calls aai 257 #[.bool b] w fun e w'=>e = .returned (.string ⟨(Lib.formatBool b).toArray⟩)∧w'=w:=Any.strconv_FormatBool Tryz.lays121 b w
def Tryz.laysM171_ren:Go.Shelf.Ren:=⟨fun | 171=>256 | 243=>297 | 246=>323 | 283=>337 | 284=>338 | 285=>339 | 286=>340 | 129=>183 | 317=>349 | 318=>350 | 319=>351 | 320=>352 | 337=>363 | 338=>364 | n=>n,fun | 3=>3 | 9=>9 | 2=>2 | 4=>4 | 171=>348 | 0=>0 | 53=>203 | 37=>311 | 5=>5 | 173=>350 | 212=>370 | 51=>201 | 20=>20 | 213=>371 | 46=>162 | 232=>384 | 233=>385 | n=>n,fun | 17=>0 | 18=>1 | 19=>2 | n=>n⟩
theorem Tryz.laysM171:Go.Proofs.LaysM.n171 aai Tryz.laysM171_ren:={
 mixed:=by kernel_rfl
 f129:=atp.trans (congrArg some (by kernel_rfl))
 f171:=Tryz.func256.trans (congrArg some (by kernel_rfl))
 f243:=Tryz.func297.trans (congrArg some (by kernel_rfl))
 f246:=Tryz.func323.trans (congrArg some (by kernel_rfl))
 f283:=Tryz.func337.trans (congrArg some (by kernel_rfl))
 f284:=Tryz.func338.trans (congrArg some (by kernel_rfl))
 f285:=Tryz.func339.trans (congrArg some (by kernel_rfl))
 f286:=Tryz.func340.trans (congrArg some (by kernel_rfl))
 f317:=Tryz.func349.trans (congrArg some (by kernel_rfl))
 f318:=Tryz.func350.trans (congrArg some (by kernel_rfl))
 f319:=Tryz.func351.trans (congrArg some (by kernel_rfl))
 f320:=Tryz.func352.trans (congrArg some (by kernel_rfl))
 f337:=Tryz.func363.trans (congrArg some (by kernel_rfl))
 f338:=Tryz.func364.trans (congrArg some (by kernel_rfl))
 t0:=apx
 a0:=aqO
 z0:=aqz
 v0:=apE
 t2:=Tryz.underlying2
 a2:=Tryz.isAgg2
 z2:=Tryz.sizeOf2
 v2:=Tryz.zeroValue2
 t3:=agr
 a3:=aqP
 z3:=aqA
 v3:=apF
 t4:=apl
 a4:=aqR
 z4:=aqC
 v4:=apI
 t5:=aqG
 a5:=asP
 z5:=asa
 v5:=ars
 t9:=ang
 a9:=aqQ
 z9:=aqB
 v9:=apH
 t20:=Tryz.underlying20
 a20:=Tryz.isAgg20
 z20:=Tryz.sizeOf20
 v20:=Tryz.zeroValue20
 t37:=ar9
 a37:=Tryz.isAgg311
 z37:=azm
 v37:=ayp
 t46:=aq8
 a46:=asx
 z46:=ar0
 v46:=arl
 t51:=aq9
 a51:=asy
 z51:=ar1
 v51:=arn
 t53:=arD
 a53:=as6
 z53:=asT
 v53:=arS
 t171:=Tryz.underlying348
 a171:=Tryz.isAgg348
 z171:=Tryz.sizeOf348
 v171:=Tryz.zeroValue348
 t173:=Tryz.underlying350
 a173:=Tryz.isAgg350
 z173:=Tryz.sizeOf350
 v173:=Tryz.zeroValue350
 t212:=Tryz.underlying370
 a212:=Tryz.isAgg370
 z212:=Tryz.sizeOf370
 v212:=Tryz.zeroValue370
 t213:=Tryz.underlying371
 a213:=Tryz.isAgg371
 z213:=Tryz.sizeOf371
 t232:=Tryz.underlying384
 a232:=Tryz.isAgg384
 z232:=Tryz.sizeOf384
 v232:=Tryz.zeroValue384
 t233:=Tryz.underlying385
 a233:=Tryz.isAgg385
 z233:=Tryz.sizeOf385
 v233:=Tryz.zeroValue385
 g17:=by kernel_rfl
 g18:=by kernel_rfl
 g19:=by kernel_rfl
 i0:=by kernel_rfl
 i2:=by kernel_rfl
 i3:=by kernel_rfl
 i4:=by kernel_rfl
 i5:=by kernel_rfl
 i9:=by kernel_rfl
 i20:=by kernel_rfl
 i37:=by kernel_rfl
 i46:=by kernel_rfl
 i51:=by kernel_rfl
 i53:=by kernel_rfl
 i171:=by kernel_rfl
 i173:=by kernel_rfl
 i212:=by kernel_rfl
 i232:=by kernel_rfl
 i233:=by kernel_rfl
 m17:=by kernel_rfl
 m18:=by kernel_rfl
 m19:=by kernel_rfl }
open Go.RowKit Go.Sort Go.Lib in
theorem Tryz.strconv_Itoa (n:Int) (h0:-9223372036854775808≤n) (h1:n≤9223372036854775807) (w:World) (htab:Lib.TabIs aai w "internal/strconv.uint64pow10" .u64 Lib.pow10Tab):
  Calls aai 256 #[.int .i64 n] w fun e w'=>e = .returned (.string ⟨(Lib.itoa n).toArray⟩)∧∃ k os,w'=grow (w.drewN k) os:=Any.strconv_Itoa Tryz.laysM171 n h0 h1 w htab
def Tryz.lays138_ren:Go.Shelf.Ren:=⟨fun | 138=>403 | 195=>404 | 218=>405 | 143=>406 | 219=>407 | 217=>408 | 225=>409 | 224=>410 | 267=>411 | 266=>412 | 314=>413 | n=>n,fun | 9=>9 | 3=>3 | 4=>4 | 5=>5 | 0=>0 | 46=>162 | 146=>417 | 51=>201 | n=>n,fun | 1=>3 | n=>n⟩
theorem Tryz.lays138:Go.Proofs.Lays.n138 aai Tryz.lays138_ren:={
 mixed:=by kernel_rfl
 f138:=Tryz.func403.trans (congrArg some (by kernel_rfl))
 f143:=Tryz.func406.trans (congrArg some (by kernel_rfl))
 f195:=Tryz.func404.trans (congrArg some (by kernel_rfl))
 f217:=Tryz.func408.trans (congrArg some (by kernel_rfl))
 f218:=Tryz.func405.trans (congrArg some (by kernel_rfl))
 f219:=Tryz.func407.trans (congrArg some (by kernel_rfl))
 f224:=Tryz.func410.trans (congrArg some (by kernel_rfl))
 f225:=Tryz.func409.trans (congrArg some (by kernel_rfl))
 f266:=Tryz.func412.trans (congrArg some (by kernel_rfl))
 f267:=Tryz.func411.trans (congrArg some (by kernel_rfl))
 f314:=Tryz.func413.trans (congrArg some (by kernel_rfl))
 t0:=apx
 a0:=aqO
 z0:=aqz
 v0:=apE
 t3:=agr
 a3:=aqP
 z3:=aqA
 v3:=apF
 t4:=apl
 a4:=aqR
 z4:=aqC
 v4:=apI
 t5:=aqG
 a5:=asP
 z5:=asa
 v5:=ars
 t9:=ang
 a9:=aqQ
 z9:=aqB
 v9:=apH
 t46:=aq8
 a46:=asx
 z46:=ar0
 v46:=arl
 t51:=aq9
 a51:=asy
 z51:=ar1
 v51:=arn
 t146:=Tryz.underlying417
 a146:=Tryz.isAgg417
 z146:=Tryz.sizeOf417
 v146:=Tryz.zeroValue417
 g1:=by kernel_rfl }
open Go.RowKit Go.Lib in
theorem Tryz.strings_Count_one (s:ByteArray) (c:UInt8) (w:World):
  Calls aai 403 #[.string s,.string ⟨#[c]⟩] w fun e w'=>e = .returned (.int .i64 (Lib.countByte s.data.toList c))∧w'=w:=Any.strings_Count_one Tryz.lays138 s c w
def Tryz.lays189_ren:Go.Shelf.Ren:=⟨fun | 189=>170 | 125=>111 | 257=>241 | 128=>182 | 129=>183 | 294=>281 | 295=>282 | 296=>283 | 297=>284 | 298=>285 | 299=>286 | 216=>172 | 300=>287 | 301=>288 | 328=>317 | 329=>244 | 330=>245 | 331=>318 | 332=>319 | 215=>242 | 343=>330 | n=>n,fun | 28=>27 | 3=>3 | 46=>162 | 0=>0 | 51=>201 | 53=>203 | 4=>4 | 183=>195 | 182=>194 | 131=>158 | 5=>5 | 9=>9 | 218=>243 | 222=>247 | 228=>281 | 229=>282 | n=>n,fun | n=>n⟩
theorem Tryz.lays189:Go.Proofs.Lays.n189 aai Tryz.lays189_ren:={
 mixed:=by kernel_rfl
 f125:=Tryz.func111.trans (congrArg some (by kernel_rfl))
 f128:=Tryz.func182.trans (congrArg some (by kernel_rfl))
 f129:=atp.trans (congrArg some (by kernel_rfl))
 f189:=Tryz.func170.trans (congrArg some (by kernel_rfl))
 f215:=Tryz.func242.trans (congrArg some (by kernel_rfl))
 f216:=Tryz.func172.trans (congrArg some (by kernel_rfl))
 f257:=Tryz.func241.trans (congrArg some (by kernel_rfl))
 f294:=Tryz.func281.trans (congrArg some (by kernel_rfl))
 f295:=Tryz.func282.trans (congrArg some (by kernel_rfl))
 f296:=Tryz.func283.trans (congrArg some (by kernel_rfl))
 f297:=Tryz.func284.trans (congrArg some (by kernel_rfl))
 f298:=Tryz.func285.trans (congrArg some (by kernel_rfl))
 f299:=Tryz.func286.trans (congrArg some (by kernel_rfl))
 f300:=Tryz.func287.trans (congrArg some (by kernel_rfl))
 f301:=Tryz.func288.trans (congrArg some (by kernel_rfl))
 f328:=Tryz.func317.trans (congrArg some (by kernel_rfl))
 f329:=Tryz.func244.trans (congrArg some (by kernel_rfl))
 f330:=Tryz.func245.trans (congrArg some (by kernel_rfl))
 f331:=Tryz.func318.trans (congrArg some (by kernel_rfl))
 f332:=Tryz.func319.trans (congrArg some (by kernel_rfl))
 f343:=Tryz.func330.trans (congrArg some (by kernel_rfl))
 t0:=apx
 a0:=aqO
 z0:=aqz
 v0:=apE
 t3:=agr
 a3:=aqP
 z3:=aqA
 v3:=apF
 t4:=apl
 a4:=aqR
 z4:=aqC
 v4:=apI
 t5:=aqG
 a5:=asP
 z5:=asa
 v5:=ars
 t9:=ang
 a9:=aqQ
 z9:=aqB
 v9:=apH
 t28:=ath
 a28:=Tryz.isAgg27
 z28:=Tryz.sizeOf27
 v28:=awf
 t46:=aq8
 a46:=asx
 z46:=ar0
 v46:=arl
 t51:=aq9
 a51:=asy
 z51:=ar1
 v51:=arn
 t53:=arD
 a53:=as6
 z53:=asT
 v53:=arS
 t131:=asb
 a131:=Tryz.isAgg158
 z131:=atq
 v131:=asD
 t182:=asc
 a182:=Tryz.isAgg194
 z182:=atr
 v182:=asE
 t183:=ase
 a183:=Tryz.isAgg195
 z183:=att
 v183:=asF
 t218:=asf
 a218:=Tryz.isAgg243
 z218:=atu
 v218:=asG
 t222:=asg
 a222:=Tryz.isAgg247
 z222:=atv
 v222:=asH
 t228:=ash
 a228:=Tryz.isAgg281
 z228:=atw
 v228:=asI
 t229:=asi
 a229:=Tryz.isAgg282
 z229:=atx
 v229:=asJ }
open Go.Sort Go.RowKit in
theorem Tryz.slices_Sort_int (blk off cap:Nat) (zs:List Int) (w:World) (hH:Holds (Value.int .i64) w blk off zs.toArray) (hblk:blk<w.heap.size) (hsz:zs.length<4611686018427387904):
  Calls aai 170 #[.slice (some ⟨blk,off,none⟩) zs.length cap] w fun e w'=>
   e = .returned (.tuple #[])∧∃ n os,w'=grow (putRow (Value.int .i64) (Sort.ahead w n) blk off (zs.mergeSort fun x y=>decide (x≤y)).toArray) os:=Any.slices_Sort_int Tryz.lays189 blk off cap zs w hH hblk hsz
def Tryz.lays190_ren:Go.Shelf.Ren:=⟨fun | 190=>211 | 125=>111 | 258=>272 | 128=>182 | 129=>183 | 302=>302 | 303=>303 | 304=>304 | 305=>305 | 306=>306 | 307=>307 | 308=>308 | 309=>309 | 310=>310 | 333=>325 | 329=>244 | 330=>245 | 334=>326 | 335=>327 | 336=>328 | 344=>341 | n=>n,fun | 31=>82 | 9=>9 | 3=>3 | 46=>162 | 0=>0 | 51=>201 | 53=>203 | 4=>4 | 183=>195 | 182=>194 | 131=>158 | 5=>5 | 218=>243 | 222=>247 | 228=>281 | 229=>282 | n=>n,fun | n=>n⟩
theorem Tryz.lays190:Go.Proofs.Lays.n190 aai Tryz.lays190_ren:={
 mixed:=by kernel_rfl
 f125:=Tryz.func111.trans (congrArg some (by kernel_rfl))
 f128:=Tryz.func182.trans (congrArg some (by kernel_rfl))
 f129:=atp.trans (congrArg some (by kernel_rfl))
 f190:=Tryz.func211.trans (congrArg some (by kernel_rfl))
 f258:=Tryz.func272.trans (congrArg some (by kernel_rfl))
 f302:=Tryz.func302.trans (congrArg some (by kernel_rfl))
 f303:=Tryz.func303.trans (congrArg some (by kernel_rfl))
 f304:=Tryz.func304.trans (congrArg some (by kernel_rfl))
 f305:=Tryz.func305.trans (congrArg some (by kernel_rfl))
 f306:=Tryz.func306.trans (congrArg some (by kernel_rfl))
 f307:=Tryz.func307.trans (congrArg some (by kernel_rfl))
 f308:=Tryz.func308.trans (congrArg some (by kernel_rfl))
 f309:=Tryz.func309.trans (congrArg some (by kernel_rfl))
 f310:=Tryz.func310.trans (congrArg some (by kernel_rfl))
 f329:=Tryz.func244.trans (congrArg some (by kernel_rfl))
 f330:=Tryz.func245.trans (congrArg some (by kernel_rfl))
 f333:=Tryz.func325.trans (congrArg some (by kernel_rfl))
 f334:=Tryz.func326.trans (congrArg some (by kernel_rfl))
 f335:=Tryz.func327.trans (congrArg some (by kernel_rfl))
 f336:=Tryz.func328.trans (congrArg some (by kernel_rfl))
 f344:=Tryz.func341.trans (congrArg some (by kernel_rfl))
 t0:=apx
 a0:=aqO
 z0:=aqz
 v0:=apE
 t3:=agr
 a3:=aqP
 z3:=aqA
 v3:=apF
 t4:=apl
 a4:=aqR
 z4:=aqC
 v4:=apI
 t5:=aqG
 a5:=asP
 z5:=asa
 v5:=ars
 t9:=ang
 a9:=aqQ
 z9:=aqB
 v9:=apH
 t31:=avR
 a31:=Tryz.isAgg82
 z31:=Tryz.sizeOf82
 v31:=ayQ
 t46:=aq8
 a46:=asx
 z46:=ar0
 v46:=arl
 t51:=aq9
 a51:=asy
 z51:=ar1
 v51:=arn
 t53:=arD
 a53:=as6
 z53:=asT
 v53:=arS
 t131:=asb
 a131:=Tryz.isAgg158
 z131:=atq
 v131:=asD
 t182:=asc
 a182:=Tryz.isAgg194
 z182:=atr
 v182:=asE
 t183:=ase
 a183:=Tryz.isAgg195
 z183:=att
 v183:=asF
 t218:=asf
 a218:=Tryz.isAgg243
 z218:=atu
 v218:=asG
 t222:=asg
 a222:=Tryz.isAgg247
 z222:=atv
 v222:=asH
 t228:=ash
 a228:=Tryz.isAgg281
 z228:=atw
 v228:=asI
 t229:=asi
 a229:=Tryz.isAgg282
 z229:=atx
 v229:=asJ }
open Go.Sort Go.RowKit in
theorem Tryz.slices_Sort_string (blk off cap:Nat) (ss:List (List UInt8)) (w:World) (hH:Holds encStr w blk off ss.toArray) (hblk:blk<w.heap.size) (hsz:ss.length<4611686018427387904):
  Calls aai 211 #[.slice (some ⟨blk,off,none⟩) ss.length cap] w fun e w'=>
   e = .returned (.tuple #[])∧∃ n os,w'=grow (putRow encStr (Sort.ahead w n) blk off (ss.mergeSort fun x y=>decide (x≤y)).toArray) os:=Any.slices_Sort_string Tryz.lays190 blk off cap ss w hH hblk hsz
def Tryz.laysNm220_ren:Go.Shelf.Ren:=⟨fun | 20=>104 | n=>n,fun | 22=>27 | 3=>3 | 4=>4 | 0=>0 | n=>n,fun | n=>n⟩
theorem Tryz.laysNm220:Go.Proofs.Lays2.n20 aai Tryz.laysNm220_ren:={
 mixed:=by kernel_rfl
 f20:=Tryz.func104.trans (congrArg some (by kernel_rfl))
 t0:=apx
 a0:=aqO
 z0:=aqz
 v0:=apE
 t3:=agr
 a3:=aqP
 z3:=aqA
 v3:=apF
 t4:=apl
 a4:=aqR
 z4:=aqC
 v4:=apI
 t22:=ath
 a22:=Tryz.isAgg27
 z22:=Tryz.sizeOf27
 v22:=awf
 i3:=by kernel_rfl }
open Go.RowKit Go.Lib Go.Sort in
theorem Tryz.slices_Compact_int (blk off cap:Nat) (zs:List Int) (w:World) (hH:Holds (Value.int .i64) w blk off zs.toArray) (hsz:zs.length≤9223372036854775807) (hcap:zs.length≤cap):
  Calls aai 104 #[.slice (some ⟨blk,off,none⟩) zs.length cap] w fun e w'=>e = .returned (.slice (some ⟨blk,off,none⟩) (aqf zs).length cap)∧∃ q,w'=putRow (Value.int .i64) (Sort.ahead w q) blk off (aqf zs++List.replicate (zs.length - (aqf zs).length) 0).toArray:=Any.slices_Compact_int Tryz.laysNm220 blk off cap zs w hH hsz hcap
open Go.RowKit Go.Lib Go.Sort in
theorem Tryz.slices_Compact_int_empty (a:Option Addr) (cap:Nat) (w:World):
  Calls aai 104 #[.slice a 0 cap] w fun e w'=>e = .returned (.slice a 0 cap)∧w'=w:=Any.slices_Compact_int_empty Tryz.laysNm220 a cap w
def Tryz.lays194_ren:Go.Shelf.Ren:=⟨fun | 194=>212 | n=>n,fun | 31=>82 | 9=>9 | 3=>3 | 4=>4 | 0=>0 | n=>n,fun | n=>n⟩
theorem Tryz.lays194:Go.Proofs.Lays.n194 aai Tryz.lays194_ren:={
 mixed:=by kernel_rfl
 f194:=Tryz.func212.trans (congrArg some (by kernel_rfl))
 t0:=apx
 a0:=aqO
 z0:=aqz
 v0:=apE
 t3:=agr
 a3:=aqP
 z3:=aqA
 v3:=apF
 t4:=apl
 a4:=aqR
 z4:=aqC
 v4:=apI
 t9:=ang
 a9:=aqQ
 z9:=aqB
 v9:=apH
 t31:=avR
 a31:=Tryz.isAgg82
 z31:=Tryz.sizeOf82
 v31:=ayQ }
open Go.RowKit Go.Lib Go.Sort in
theorem Tryz.slices_Compact_string (blk off cap:Nat) (zs:List (List UInt8)) (w:World) (hH:Holds encStr w blk off zs.toArray) (hsz:zs.length≤9223372036854775807) (hcap:zs.length≤cap):
  Calls aai 212 #[.slice (some ⟨blk,off,none⟩) zs.length cap] w fun e w'=>e = .returned (.slice (some ⟨blk,off,none⟩) (aqf zs).length cap)∧∃ q,w'=putRow encStr (Sort.ahead w q) blk off (aqf zs++List.replicate (zs.length - (aqf zs).length) []).toArray:=Any.slices_Compact_string Tryz.lays194 blk off cap zs w hH hsz hcap
open Go.RowKit Go.Lib Go.Sort in
theorem Tryz.slices_Compact_string_empty (a:Option Addr) (cap:Nat) (w:World):
  Calls aai 212 #[.slice a 0 cap] w fun e w'=>e = .returned (.slice a 0 cap)∧w'=w:=Any.slices_Compact_string_empty Tryz.lays194 a cap w
open Go.RowKit Go.Sort in
theorem Tryz.slices_Sort_string_none (p:Option Addr) (cap:Nat) (w:World):
  Calls aai 211 #[.slice p 0 cap] w fun e w'=>e = .returned (.tuple #[])∧w'=w:=Any.slices_Sort_string_none Tryz.lays190 p cap w
open Go.RowKit Go.Sort in
theorem Tryz.slices_Sort_int_none (p:Option Addr) (cap:Nat) (w:World):
  Calls aai 170 #[.slice p 0 cap] w fun e w'=>e = .returned (.tuple #[])∧w'=w:=Any.slices_Sort_int_none Tryz.lays189 p cap w
end Go.Proofs
end
section
namespace Go.Proofs.Z
open Go Go.au
set_option maxRecDepth 10000
theorem ahq:aH aai 170:=fun _ _=>by kernel_rfl
theorem ahr:aH aai 104:=fun _ _=>by kernel_rfl
theorem ahs:aH aai 106:=fun _ _=>by kernel_rfl
theorem aht:aH aai 240:=fun _ _=>by kernel_rfl
theorem ahu:aH aai 169:=fun _ _=>by kernel_rfl
theorem ahv:aH aai 105:=fun _ _=>by kernel_rfl
theorem ak2:aH aai 50:=fun _ _=>by kernel_rfl
section
variable {α:Type} [Inhabited α] [DecidableEq α]
theorem mem_compact (zs:List α) (x:α):x∈aqf zs↔x∈zs:=by
 unfold aqf awG
 simp only [adE,ana,arh]
 constructor
 ·rintro ⟨j,⟨hj,_⟩,rfl⟩
  rw [ani zs.toArray j (by simpa using hj)]; simp
 ·intro hx
  have hex:∃ j,j<zs.length∧zs.toArray[j]! = x:=by
   obtain ⟨j,hj,rfl⟩:=af2 hx
   exact ⟨j,hj,by rw [ani zs.toArray j (by simpa using hj)]; simp⟩
  have hmin:∀ n j,j≤n→j<zs.length→zs.toArray[j]! = x→∃ j,(j<zs.length∧auo zs.toArray j=true)∧zs.toArray[j]! = x:=by
   intro n
   induction n with
   | zero=>intro j h0 hj e; exact ⟨j,⟨hj,awg _ j (by omega)⟩,e⟩
   | succ n ih=>
    intro j h0 hj e
    by_cases hk:zs.toArray[j]! = zs.toArray[j - 1]!
    ·by_cases hz:j=0
     ·exact ⟨j,⟨hj,awg _ j (by omega)⟩,e⟩
     ·exact ih (j - 1) (by omega) (by omega) (by rw [← hk,e])
    ·exact ⟨j,⟨hj,Lib.keeps_pos hk⟩,e⟩
  obtain ⟨j,hj,e⟩:=hex
  exact hmin j j (aew _) hj e
theorem Np {le lt:α→α→Prop} (hlt:∀ a b,le a b→a≠b→lt a b) (htr:∀ a b c,le a b→lt b c→lt a c) (hrf:∀ a,le a a) {zs:List α} (hs:zs.Pairwise le):(aqf zs).Pairwise lt:=by
 unfold aqf awG
 rw [ap0]
 have hp:((List.range zs.length).filter (auo zs.toArray)).Pairwise (fun i j=>i<j∧j<zs.length∧auo zs.toArray j=true):=by
  have h1:(List.range zs.length).Pairwise (· < ·):=List.pairwise_lt_range
  have h2:=h1.filter (auo zs.toArray)
  refine List.Pairwise.imp_of_mem ?_ h2
  intro i j _ hj hij
  simp only [ana,arh] at hj
  exact ⟨hij,hj⟩
 refine hp.imp ?_
 rintro i j ⟨hij,hj,hk⟩
 have hne:zs.toArray[j]!≠zs.toArray[j - 1]!:=fun e=>by rw [Lib.keeps_neg (by omega) e] at hk; cases hk
 have hg:∀ q,q<zs.length→zs.toArray[q]! = zs[q]!:=fun q hq=>by
  rw [ani zs.toArray q (by simpa using hq),ani zs q hq]; simp
 have hle:∀ p q,p≤q→q<zs.length→le zs.toArray[p]! zs.toArray[q]!:=by
  intro p q hpq hq
  rw [hg p (by omega),hg q hq]
  rcases Nat.lt_or_eq_of_le hpq with h | h
  ·rw [ani zs p (by omega),ani zs q hq]
   exact (agc.1 hs) p q _ _ h
  ·subst h; exact hrf _
 exact htr _ _ _ (hle i (j - 1) (by omega) (by omega)) (hlt _ _ (hle (j - 1) j (by omega) hj) (fun e=>hne e.symm))
end
theorem Vt (l:List Int):aqf (l.mergeSort fun x y=>decide (x≤y))=rP l:=by
 refine IQ (Np (le:=(·≤·)) (lt:=(· < ·)) (fun a b h1 h2=>by omega) (fun a b c h1 h2=>by omega) (fun a=>Int.le_refl a) ?_) (fun x=>by rw [mem_compact,List.mem_mergeSort])
 have:=List.pairwise_mergeSort (le:=fun x y:Int=>decide (x≤y)) (fun a b c h1 h2=>by simp at *; omega) (fun a b=>by simp; omega) l
 simpa using this
abbrev VI (n:Int):Value:=.int .i64 n
theorem ak3:Ib VI aai 170 (fun l=>l.mergeSort fun x y=>decide (x≤y)) where
 ent:=ahq
 len zs:=arE zs
 some:=fun blk off cap zs w h1 h2 h3=>Tryz.slices_Sort_int blk off cap zs w h1 h2 h3
 none:=Tryz.slices_Sort_int_none
theorem anW:Rz VI aai 104 aqf where
 ent:=ahr
 len zs:=asl zs
 some:=fun blk off cap zs w h1 h2 h3=>(Tryz.slices_Compact_int blk off cap zs w h1 h2 h3).mono fun e w' ⟨he,q,hw⟩=>⟨he,q,_,by have:=asl zs; simp; omega,fun j h=>by
  rw [ani _ _ (by simp; omega)]
  simp [asY h],hw⟩
 none:=Tryz.slices_Compact_int_empty
theorem Y2 (l:List Int):aC aai 106 [.pd (ints l)] [.clo 171 [ints l]]:=by
 refine aC.mk Tryz.func106 rfl ahs (by simp [Tryz.ntmps106]) fun w G=>?_
 refine aQk ?_
 refine R.dw 1 (ints l) rfl (fun _ h=>h) rfl ?_
 simp only [go_sem,St.dw,SV.dw]
 refine R.rC ?_
 rfl
theorem PO (l:List Int) (hl:l.length * 8≤140737488351232):eH aai 240 [.pd (.raw (.slice none 0 0)),.pd (.clo 171 [ints l])] [] [] (fun res M'=>res = .own ⟨3,1,l.map I⟩∧M'=[]):=by
 refine ⟨aht,fun w G vals hG hs hv _=>?_⟩
 have h0:aN w G (vals.getD 0 undef) (.raw (.slice none 0 0)):=hv 0 (by simp)
 have h1:Rd w G (vals.getD 1 undef) (.clo 171 [ints l]):=hv 1 (by simp)
 have e0:=aN.aK h0
 have vg:vals = #[vals.getD 0 undef,vals.getD 1 undef]:=by
  apply ar5
  ·simpa using hs
  ·intro i hi1 hi2
   have:vals.size=2:=by simpa using hs
   match i,hi1 with
   | 0,_=>simp [Array.getD,this]
   | 1,_=>simp [Array.getD,this]
 rw [vg,e0]
 generalize vals.getD 1 undef=v1 at h1 ⊢
 cases h1 with
 | clo _ _ bs vs hbl iU hcell hrd=>
  obtain ⟨p,rfl⟩:=agj.1 hbl
  obtain ⟨b,off⟩:=p
  have hc:=hcell 0 0 (by simp) (by simp [PD.width])
  have hp:=iU 0 0 (by simp) (by simp [PD.width])
  have hr:=hrd 0 0 (by simp) (by simp [PD.width])
  simp only [apu,Nat.add_zero] at hc hp hr
  have hI:Ints w.heap.size w (vs 0 0) l:=by
   rcases Rd.mG hr with ⟨p0,e1,e2⟩ | ⟨b',off',cap,e1,_,_,_,h4⟩
   ·exact .inl ⟨⟨p0,e1⟩,by simpa using e2⟩
   ·refine .inr ⟨b',off',cap,by simpa using e1,?_,fun j hj=>?_⟩
    ·intro hpos
     obtain ⟨h5,_⟩:=h4 0 (by simpa using hpos) 0 (by simp [hpos,PD.width])
     exact hG.lt _ _ h5
    ·obtain ⟨_,v,h5,h6⟩:=h4 j (by simpa using hj) 0 (by simp [hj,PD.width])
     have e6:(l.map I).getD j (.ak [])=I l[j]:=by simp [hj]
     rw [e6] at h6
     simp only [ap2,Nat.add_zero] at h5
     rw [h5,aN.aK (Rd.CJ h6)]; simp [hj]
  refine (callsIn_wide.1 (appendSeq_in Fence.wide 5 trivial trivial rfl (by omega) b off (vs 0 0) l hl w (hG.lt _ _ hp) hc hI)).mono ?_
  rintro e w' ⟨v,rfl,hown,hb⟩
  refine ⟨.own ⟨3,1,l.map I⟩,[],G,⟨rfl,rfl⟩,fun _ _ h=>h,fun _ _ h=>.inl h,fun b o h=>ajq (hG.lt b o h) hb.size,⟨hb.os,hb.tape,hb.output,hb.size,fun k hk _=>hb.block k hk,fun h=>by cases h⟩,⟨v,rfl,?_⟩,fun r m h=>by simp [lk] at h,fun r m h=>by simp [lk] at h⟩
  rcases hown with ⟨hxl,⟨rfl,hn⟩ | ⟨g,cap,cur,rfl,hb0,hgb,h2,h3,h4,h5⟩⟩
  ·exact .inl ⟨rfl,by have:l=[]:=ai9.1 hn
                      simp [this]⟩
  ·refine .inr ⟨g,cap,cur,by simp,hb0,fun o ho=>by have:=hG.lt _ _ ho; omega,hgb,h4,by simpa using h2,h3,fun k hk=>?_,fun k j hk hj=>?_⟩
   ·simp only [adu] at hk
    simp [hk,PD.width]
   ·simp only [adu] at hk
    have hj:j=0:=by simp at hj; exact hj
    subst hj
    have e1:(l.map I).getD k (.ak [])=I l[k]:=by simp [hk]
    have hkc:k<cur.size:=by omega
    have e2:cur.getD k undef = .int .i64 l[k]:=by
     have h6:(cur.toList.take (l.length * 1))[k]? = some (.int .i64 l[k]):=by rw [h5]; simp [hk]
     rw [ap3,adA (by omega)] at h6
     have h7:cur[k]? = some (.int .i64 l[k]):=by simpa using h6
     simp [adr,h7]
    simp only [ap2,Nat.add_zero]
    rw [e1,e2]; exact .raw _ rfl
theorem UC (l:List Int) (hl:l.length * 8≤140737488351232):eH aai 169 [.pd (.clo 171 [ints l])] [] [] (fun res M'=>res = .own ⟨3,1,l.map I⟩∧M'=[]):=by
 refine eH.mk Tryz.func169 rfl ahu (by simp [Tryz.ntmps169]) fun w G=>?_
 refine aQk ?_
 refine R.eG (by rfl) 7 (by rfl) rfl rfl (ah (by (simp only [go_sem]))) (.cons (.pd _) (.cons (.pd _) .nil)) (PO l hl) (fun r m h=>by simp [lk] at h) (fun r h=>by simp at h) ?_
 rintro res M' ⟨rfl,rfl⟩ _
 simp only [Behind]
 refine aQk ?_
 exact R.rX rfl rfl rfl ⟨rfl,rfl⟩
abbrev abO (l:List Int):List Int:=l.mergeSort fun x y=>decide (x≤y)
theorem WV (l:List Int) (hl:l.length * 8≤140737488351232):eH aai 105 [.pd (.clo 171 [ints l])] [] [] (fun res M'=>res = .own ⟨3,1,(abO l).map I⟩∧M'=[]):=by
 refine eH.mk Tryz.func105 rfl ahv (by simp [Tryz.ntmps105]) fun w G=>?_
 refine aQk ?_
 refine R.eG (by rfl) 7 (by rfl) rfl rfl (ah (by (simp only [go_sem]))) (.cons (.pd _) .nil) (UC l hl) (fun r m h=>by simp [lk] at h) (fun r h=>by simp at h) ?_
 rintro res M' ⟨rfl,rfl⟩ _
 simp only [Behind]
 refine aQk ?_
 refine R.adW VI ak3 (fun _=>rfl) l rfl rfl (by (simp only [go_sem])) rfl rfl (by omega) ?_
 refine aQk ?_
 exact R.rX rfl rfl rfl ⟨rfl,rfl⟩
theorem Y3 (l:List Int) (hl:l.length * 8≤140737488351232):aT aai 50 [.pd (ints l)] [ints (rP l)]:=by
 refine aT.mk Tryz.func50 rfl ak2 (by simp [Tryz.ntmps50]) fun w G=>?_
 refine aQk ?_
 refine R.kC (Y2 l) rfl rfl (.cons (.pd _) (.nil)) ?_
 refine aQk ?_
 refine R.eG (by rfl) 7 (by rfl) rfl rfl (ah (by (simp only [go_sem]))) (.cons (.pd _) .nil) (WV l hl) (fun r m h=>by simp [lk] at h) (fun r h=>by simp at h) ?_
 rintro res M' ⟨rfl,rfl⟩ _
 simp only [Behind]
 refine aQk ?_
 have hlen:(abO l).length=l.length:=arE l
 refine R.ahp VI anW (fun _=>rfl) (abO l) rfl rfl (by (simp only [go_sem])) rfl rfl rfl (by omega) ?_
 refine aQk ?_
 refine R.bT 7 rfl rfl ?_
 simp only [go_sem]
 refine R.rW ?_
 rw [← Vt]; rfl
end Go.Proofs.Z
end
