/- A part of the proof: Ty. -/
import Derived.Test.YtjbhhddfaohdnaaGreatDoorPThD
import Derived.Test.YtjbhhddfaohdnaaGreatDoorProg
set_option linter.all false
set_option linter.deprecated false
namespace Go.Proofs.YtjbhhddfaohdnaaGreatDoor
open Go Go.Abs
set_option maxRecDepth 100000
theorem ty1:szT Tryz.prog 1=1∧knownT Tryz.prog 1=true∧aggT Tryz.prog 1=false∧ifT Tryz.prog 1=false∧byT Tryz.prog 1=8∧zeroT Tryz.prog 1=some [.nilFunc]:=by and_intros <;> kernel_rfl
theorem ty2:szT Tryz.prog 2=1∧knownT Tryz.prog 2=true∧aggT Tryz.prog 2=false∧intT Tryz.prog 2=some .i64∧ifT Tryz.prog 2=false∧byT Tryz.prog 2=8∧zeroT Tryz.prog 2=some [.int .i64 0]:=by and_intros <;> kernel_rfl
theorem sz3:szT Tryz.prog 3=1:=by kernel_rfl
theorem kn3:knownT Tryz.prog 3=true:=by kernel_rfl
theorem ag3:aggT Tryz.prog 3=false:=by kernel_rfl
theorem in3:intT Tryz.prog 3=some .i64:=by kernel_rfl
theorem if3:ifT Tryz.prog 3=false:=by kernel_rfl
theorem by3:byT Tryz.prog 3=8:=by kernel_rfl
theorem ze3:zeroT Tryz.prog 3=some [.int .i64 0]:=by kernel_rfl
theorem zd3:zeroD Tryz.prog 3=some (.raw (.int .i64 0)):=by kernel_rfl
theorem ty4:szT Tryz.prog 4=1∧knownT Tryz.prog 4=true∧aggT Tryz.prog 4=false∧boT Tryz.prog 4=true∧ifT Tryz.prog 4=false∧byT Tryz.prog 4=1∧zeroT Tryz.prog 4=some [.bool false]:=by and_intros <;> kernel_rfl
theorem zd4:zeroD Tryz.prog 4=some (.raw (.bool false)):=by kernel_rfl
theorem sz5:szT Tryz.prog 5=1:=by kernel_rfl
theorem ty5:knownT Tryz.prog 5=true∧aggT Tryz.prog 5=false∧ifT Tryz.prog 5=false∧byT Tryz.prog 5=1∧zeroT Tryz.prog 5=some [.int .u8 0]:=by and_intros <;> kernel_rfl
theorem in5:intT Tryz.prog 5=some .u8:=by kernel_rfl
theorem sz9:szT Tryz.prog 9=1:=by kernel_rfl
theorem ty9:knownT Tryz.prog 9=true∧aggT Tryz.prog 9=false∧ifT Tryz.prog 9=false:=by and_intros <;> kernel_rfl
theorem st9:strT Tryz.prog 9=true:=by kernel_rfl
theorem by9:byT Tryz.prog 9=16:=by kernel_rfl
theorem ze9:zeroT Tryz.prog 9=some [.string ByteArray.empty]:=by kernel_rfl
theorem ty21:szT Tryz.prog 21=1∧knownT Tryz.prog 21=true∧aggT Tryz.prog 21=false∧intT Tryz.prog 21=some .i32∧ifT Tryz.prog 21=false∧byT Tryz.prog 21=4∧zeroT Tryz.prog 21=some [.int .i32 0]:=by and_intros <;> kernel_rfl
theorem ty22:szT Tryz.prog 22=1∧knownT Tryz.prog 22=true∧aggT Tryz.prog 22=false∧slT Tryz.prog 22=some 74∧ifT Tryz.prog 22=false∧byT Tryz.prog 22=24∧zeroT Tryz.prog 22=some [.slice none 0 0]:=by and_intros <;> kernel_rfl
theorem ty24:szT Tryz.prog 24=1∧knownT Tryz.prog 24=true∧aggT Tryz.prog 24=true∧ifT Tryz.prog 24=false∧byT Tryz.prog 24=24∧zeroT Tryz.prog 24=some [.slice none 0 0]∧fullT Tryz.prog 24=true∧fldT Tryz.prog 24 0=some (0,22):=by and_intros <;> kernel_rfl
theorem ty25:szT Tryz.prog 25=1∧knownT Tryz.prog 25=true∧aggT Tryz.prog 25=false∧slT Tryz.prog 25=some 30∧ifT Tryz.prog 25=false∧byT Tryz.prog 25=24∧zeroT Tryz.prog 25=some [.slice none 0 0]:=by and_intros <;> kernel_rfl
theorem ty26:szT Tryz.prog 26=1∧knownT Tryz.prog 26=true∧aggT Tryz.prog 26=false∧slT Tryz.prog 26=some 80∧ifT Tryz.prog 26=false∧byT Tryz.prog 26=24∧zeroT Tryz.prog 26=some [.slice none 0 0]:=by and_intros <;> kernel_rfl
theorem sz27:szT Tryz.prog 27=1:=by kernel_rfl
theorem kn27:knownT Tryz.prog 27=true:=by kernel_rfl
theorem ag27:aggT Tryz.prog 27=false:=by kernel_rfl
theorem sl27:slT Tryz.prog 27=some 3:=by kernel_rfl
theorem if27:ifT Tryz.prog 27=false:=by kernel_rfl
theorem by27:byT Tryz.prog 27=24:=by kernel_rfl
theorem ze27:zeroT Tryz.prog 27=some [.slice none 0 0]:=by kernel_rfl
theorem ty28:szT Tryz.prog 28=1∧knownT Tryz.prog 28=true∧aggT Tryz.prog 28=false∧ifT Tryz.prog 28=false∧byT Tryz.prog 28=24∧zeroT Tryz.prog 28=some [.slice none 0 0]:=by and_intros <;> kernel_rfl
theorem sl28:slT Tryz.prog 28=some 84:=by kernel_rfl
theorem ty30:szT Tryz.prog 30=8∧knownT Tryz.prog 30=true∧aggT Tryz.prog 30=true∧ifT Tryz.prog 30=false∧byT Tryz.prog 30=128∧zeroT Tryz.prog 30=some [.int .i64 0,.int .i64 0,.slice none 0 0,.slice none 0 0,.slice none 0 0,.int .i64 0,.int .i64 0,.slice none 0 0]∧fullT Tryz.prog 30=true∧fldT Tryz.prog 30 0=some (0,3)∧fldT Tryz.prog 30 1=some (1,3)∧fldT Tryz.prog 30 2=some (2,25)∧fldT Tryz.prog 30 3=some (3,26)∧fldT Tryz.prog 30 4=some (4,27)∧fldT Tryz.prog 30 5=some (5,3)∧fldT Tryz.prog 30 6=some (6,3)∧fldT Tryz.prog 30 7=some (7,28):=by and_intros <;> kernel_rfl
theorem ty31:szT Tryz.prog 31=1∧knownT Tryz.prog 31=true∧aggT Tryz.prog 31=false∧ifT Tryz.prog 31=false∧byT Tryz.prog 31=24∧zeroT Tryz.prog 31=some [.slice none 0 0]:=by and_intros <;> kernel_rfl
theorem sl31:slT Tryz.prog 31=some 57:=by kernel_rfl
theorem ty32:szT Tryz.prog 32=1∧knownT Tryz.prog 32=true∧aggT Tryz.prog 32=false∧ifT Tryz.prog 32=false∧byT Tryz.prog 32=24∧zeroT Tryz.prog 32=some [.slice none 0 0]:=by and_intros <;> kernel_rfl
theorem sl32:slT Tryz.prog 32=some 53:=by kernel_rfl
theorem sz33:szT Tryz.prog 33=1:=by kernel_rfl
theorem kn33:knownT Tryz.prog 33=true:=by kernel_rfl
theorem ag33:aggT Tryz.prog 33=false:=by kernel_rfl
theorem ty33:slT Tryz.prog 33=some 39∧ifT Tryz.prog 33=false:=by and_intros <;> kernel_rfl
theorem by33:byT Tryz.prog 33=24:=by kernel_rfl
theorem ze33:zeroT Tryz.prog 33=some [.slice none 0 0]:=by kernel_rfl
theorem sz37:szT Tryz.prog 37=1:=by kernel_rfl
theorem ty37:knownT Tryz.prog 37=true∧aggT Tryz.prog 37=false∧ifT Tryz.prog 37=false:=by and_intros <;> kernel_rfl
theorem sl37:slT Tryz.prog 37=some 76:=by kernel_rfl
theorem by37:byT Tryz.prog 37=24:=by kernel_rfl
theorem ze37:zeroT Tryz.prog 37=some [.slice none 0 0]:=by kernel_rfl
theorem sz39:szT Tryz.prog 39=2:=by kernel_rfl
theorem kn39:knownT Tryz.prog 39=true:=by kernel_rfl
theorem ag39:aggT Tryz.prog 39=true:=by kernel_rfl
theorem ty39:ifT Tryz.prog 39=false∧byT Tryz.prog 39=48∧zeroT Tryz.prog 39=some [.slice none 0 0,.slice none 0 0]∧fullT Tryz.prog 39=true∧fldT Tryz.prog 39 0=some (0,37)∧fldT Tryz.prog 39 1=some (1,32):=by and_intros <;> kernel_rfl
theorem zd39:zeroD Tryz.prog 39=some (.tup [.raw (.slice none 0 0),.raw (.slice none 0 0)]):=by kernel_rfl
theorem sz40:szT Tryz.prog 40=1:=by kernel_rfl
theorem kn40:knownT Tryz.prog 40=true:=by kernel_rfl
theorem ag40:aggT Tryz.prog 40=false:=by kernel_rfl
theorem ty40:intT Tryz.prog 40=some .i64∧ifT Tryz.prog 40=false∧byT Tryz.prog 40=8∧zeroT Tryz.prog 40=some [.int .i64 0]:=by and_intros <;> kernel_rfl
theorem ty47:szT Tryz.prog 47=1∧knownT Tryz.prog 47=true∧aggT Tryz.prog 47=false∧ifT Tryz.prog 47=false∧byT Tryz.prog 47=24∧zeroT Tryz.prog 47=some [.slice none 0 0]∧zeroD Tryz.prog 47=some (.raw (.slice none 0 0)):=by and_intros <;> kernel_rfl
theorem sl47:slT Tryz.prog 47=some 37:=by kernel_rfl
theorem ty50:szT Tryz.prog 50=1∧knownT Tryz.prog 50=true∧aggT Tryz.prog 50=false∧ifT Tryz.prog 50=false∧byT Tryz.prog 50=8∧zeroT Tryz.prog 50=some [.nilFunc]:=by and_intros <;> kernel_rfl
theorem sz53:szT Tryz.prog 53=2:=by kernel_rfl
theorem kn53:knownT Tryz.prog 53=true:=by kernel_rfl
theorem ag53:aggT Tryz.prog 53=true:=by kernel_rfl
theorem ty53:ifT Tryz.prog 53=false∧fullT Tryz.prog 53=true∧fldT Tryz.prog 53 0=some (0,27)∧fldT Tryz.prog 53 1=some (1,27):=by and_intros <;> kernel_rfl
theorem by53:byT Tryz.prog 53=48:=by kernel_rfl
theorem ze53:zeroT Tryz.prog 53=some [.slice none 0 0,.slice none 0 0]:=by kernel_rfl
theorem sz57:szT Tryz.prog 57=6:=by kernel_rfl
theorem ty57:knownT Tryz.prog 57=true∧aggT Tryz.prog 57=true∧ifT Tryz.prog 57=false∧fullT Tryz.prog 57=true∧fldT Tryz.prog 57 0=some (0,3)∧fldT Tryz.prog 57 1=some (1,3)∧fldT Tryz.prog 57 2=some (2,3)∧fldT Tryz.prog 57 3=some (3,37)∧fldT Tryz.prog 57 4=some (4,3)∧fldT Tryz.prog 57 5=some (5,27):=by and_intros <;> kernel_rfl
theorem by57:byT Tryz.prog 57=80:=by kernel_rfl
theorem ze57:zeroT Tryz.prog 57=some [.int .i64 0,.int .i64 0,.int .i64 0,.slice none 0 0,.int .i64 0,.slice none 0 0]:=by kernel_rfl
theorem ty59:szT Tryz.prog 59=1∧knownT Tryz.prog 59=true∧aggT Tryz.prog 59=false∧ifT Tryz.prog 59=false∧byT Tryz.prog 59=24∧zeroT Tryz.prog 59=some [.slice none 0 0]:=by and_intros <;> kernel_rfl
theorem sl59:slT Tryz.prog 59=some 33:=by kernel_rfl
theorem ty65:szT Tryz.prog 65=1∧knownT Tryz.prog 65=true∧aggT Tryz.prog 65=false∧slT Tryz.prog 65=some 47∧ifT Tryz.prog 65=false∧byT Tryz.prog 65=24∧zeroT Tryz.prog 65=some [.slice none 0 0]:=by and_intros <;> kernel_rfl
theorem ty74:szT Tryz.prog 74=3∧knownT Tryz.prog 74=true∧aggT Tryz.prog 74=true∧ifT Tryz.prog 74=false∧byT Tryz.prog 74=64∧zeroT Tryz.prog 74=some [.string ByteArray.empty,.slice none 0 0,.slice none 0 0]∧fullT Tryz.prog 74=true∧fldT Tryz.prog 74 0=some (0,9)∧fldT Tryz.prog 74 1=some (1,28)∧fldT Tryz.prog 74 2=some (2,27):=by and_intros <;> kernel_rfl
theorem sz76:szT Tryz.prog 76=3:=by kernel_rfl
theorem ty76:knownT Tryz.prog 76=true∧aggT Tryz.prog 76=true∧eqT Tryz.prog 76=some [0,0,1]∧ifT Tryz.prog 76=false∧fullT Tryz.prog 76=true∧fldT Tryz.prog 76 0=some (0,3)∧fldT Tryz.prog 76 1=some (1,3)∧fldT Tryz.prog 76 2=some (2,9):=by and_intros <;> kernel_rfl
theorem by76:byT Tryz.prog 76=32:=by kernel_rfl
theorem ze76:zeroT Tryz.prog 76=some [.int .i64 0,.int .i64 0,.string ByteArray.empty]:=by kernel_rfl
theorem ty78:szT Tryz.prog 78=5∧knownT Tryz.prog 78=true∧aggT Tryz.prog 78=true∧ifT Tryz.prog 78=false∧byT Tryz.prog 78=48∧zeroT Tryz.prog 78=some [.int .i64 0,.int .i64 0,.int .i64 0,.int .i64 0,.string ByteArray.empty]∧fullT Tryz.prog 78=true∧fldT Tryz.prog 78 0=some (0,3)∧fldT Tryz.prog 78 1=some (1,3)∧fldT Tryz.prog 78 2=some (2,76):=by and_intros <;> kernel_rfl
theorem ty80:szT Tryz.prog 80=12∧knownT Tryz.prog 80=true∧aggT Tryz.prog 80=true∧ifT Tryz.prog 80=false∧byT Tryz.prog 80=112∧zeroT Tryz.prog 80=some [.int .i64 0,.int .i64 0,.int .i64 0,.int .i64 0,.string ByteArray.empty,.int .i64 0,.int .i64 0,.int .i64 0,.int .i64 0,.int .i64 0,.string ByteArray.empty,.int .i64 0]∧fullT Tryz.prog 80=true∧fldT Tryz.prog 80 0=some (0,78)∧fldT Tryz.prog 80 1=some (5,3)∧fldT Tryz.prog 80 2=some (6,78)∧fldT Tryz.prog 80 3=some (11,3):=by and_intros <;> kernel_rfl
theorem ty81:szT Tryz.prog 81=1∧knownT Tryz.prog 81=true∧aggT Tryz.prog 81=false∧ifT Tryz.prog 81=false∧byT Tryz.prog 81=8∧zeroT Tryz.prog 81=some [.nilFunc]:=by and_intros <;> kernel_rfl
theorem ty82:szT Tryz.prog 82=1∧knownT Tryz.prog 82=true∧aggT Tryz.prog 82=false∧ifT Tryz.prog 82=false∧byT Tryz.prog 82=24∧zeroT Tryz.prog 82=some [.slice none 0 0]:=by and_intros <;> kernel_rfl
theorem sl82:slT Tryz.prog 82=some 9:=by kernel_rfl
theorem sz84:szT Tryz.prog 84=6:=by kernel_rfl
theorem ty84:knownT Tryz.prog 84=true∧aggT Tryz.prog 84=true∧ifT Tryz.prog 84=false∧fullT Tryz.prog 84=true∧fldT Tryz.prog 84 0=some (0,9)∧fldT Tryz.prog 84 1=some (1,3)∧fldT Tryz.prog 84 2=some (2,82)∧fldT Tryz.prog 84 3=some (3,76):=by and_intros <;> kernel_rfl
theorem by84:byT Tryz.prog 84=80:=by kernel_rfl
theorem ze84:zeroT Tryz.prog 84=some [.string ByteArray.empty,.int .i64 0,.slice none 0 0,.int .i64 0,.int .i64 0,.string ByteArray.empty]:=by kernel_rfl
theorem ty92:szT Tryz.prog 92=1∧knownT Tryz.prog 92=true∧aggT Tryz.prog 92=false∧ifT Tryz.prog 92=false∧byT Tryz.prog 92=8∧zeroT Tryz.prog 92=some [.nilFunc]:=by and_intros <;> kernel_rfl
theorem sz95:szT Tryz.prog 95=1:=by kernel_rfl
theorem ty95:knownT Tryz.prog 95=true∧aggT Tryz.prog 95=false∧ifT Tryz.prog 95=false:=by and_intros <;> kernel_rfl
theorem mp95:mpT Tryz.prog 95=some (9,.string,39):=by kernel_rfl
theorem by95:byT Tryz.prog 95=8:=by kernel_rfl
theorem ze95:zeroT Tryz.prog 95=some [.map none]:=by kernel_rfl
theorem ty97:szT Tryz.prog 97=1∧knownT Tryz.prog 97=true∧aggT Tryz.prog 97=false∧ifT Tryz.prog 97=false∧byT Tryz.prog 97=8∧zeroT Tryz.prog 97=some [.nilFunc]:=by and_intros <;> kernel_rfl
theorem ty104:szT Tryz.prog 104=1∧knownT Tryz.prog 104=true∧aggT Tryz.prog 104=false∧ifT Tryz.prog 104=false∧byT Tryz.prog 104=8∧zeroT Tryz.prog 104=some [.nilFunc]:=by and_intros <;> kernel_rfl
theorem ty105:szT Tryz.prog 105=1∧knownT Tryz.prog 105=true∧aggT Tryz.prog 105=false∧ifT Tryz.prog 105=false∧byT Tryz.prog 105=8∧zeroT Tryz.prog 105=some [.nilFunc]:=by and_intros <;> kernel_rfl
theorem ty108:szT Tryz.prog 108=1∧knownT Tryz.prog 108=true∧aggT Tryz.prog 108=false∧ifT Tryz.prog 108=false∧byT Tryz.prog 108=8∧zeroT Tryz.prog 108=some [.nilFunc]:=by and_intros <;> kernel_rfl
theorem ty109:szT Tryz.prog 109=1∧knownT Tryz.prog 109=true∧aggT Tryz.prog 109=false∧ifT Tryz.prog 109=false∧byT Tryz.prog 109=8∧zeroT Tryz.prog 109=some [.nilFunc]:=by and_intros <;> kernel_rfl
theorem ty113:szT Tryz.prog 113=1∧knownT Tryz.prog 113=true∧aggT Tryz.prog 113=false∧ifT Tryz.prog 113=false∧byT Tryz.prog 113=8∧zeroT Tryz.prog 113=some [.map none]:=by and_intros <;> kernel_rfl
theorem mp113:mpT Tryz.prog 113=some (3,.int .i64,4):=by kernel_rfl
theorem ty119:szT Tryz.prog 119=1∧knownT Tryz.prog 119=true∧aggT Tryz.prog 119=false∧ifT Tryz.prog 119=false∧byT Tryz.prog 119=8∧zeroT Tryz.prog 119=some [.map none]:=by and_intros <;> kernel_rfl
theorem mp119:mpT Tryz.prog 119=some (3,.int .i64,173):=by kernel_rfl
theorem ty135:szT Tryz.prog 135=1∧knownT Tryz.prog 135=true∧aggT Tryz.prog 135=false∧ifT Tryz.prog 135=false∧byT Tryz.prog 135=24∧zeroT Tryz.prog 135=some [.slice none 0 0]:=by and_intros <;> kernel_rfl
theorem sl135:slT Tryz.prog 135=some 95:=by kernel_rfl
theorem ty137:szT Tryz.prog 137=10∧knownT Tryz.prog 137=true∧aggT Tryz.prog 137=true∧ifT Tryz.prog 137=false∧byT Tryz.prog 137=176∧zeroT Tryz.prog 137=some [.int .i64 0,.int .i64 0,.slice none 0 0,.slice none 0 0,.slice none 0 0,.int .i64 0,.int .i64 0,.slice none 0 0,.slice none 0 0,.slice none 0 0]∧fullT Tryz.prog 137=true∧fldT Tryz.prog 137 0=some (0,30)∧fldT Tryz.prog 137 1=some (8,31)∧fldT Tryz.prog 137 2=some (9,135):=by and_intros <;> kernel_rfl
theorem ty138:szT Tryz.prog 138=1∧knownT Tryz.prog 138=true∧aggT Tryz.prog 138=false∧ifT Tryz.prog 138=false∧byT Tryz.prog 138=8∧zeroT Tryz.prog 138=some [.nilFunc]∧zeroD Tryz.prog 138=some (.raw (.nilFunc)):=by and_intros <;> kernel_rfl
theorem ty139:szT Tryz.prog 139=1∧knownT Tryz.prog 139=true∧aggT Tryz.prog 139=false∧ifT Tryz.prog 139=false∧byT Tryz.prog 139=8∧zeroT Tryz.prog 139=some [.map none]:=by and_intros <;> kernel_rfl
theorem mp139:mpT Tryz.prog 139=some (3,.int .i64,138):=by kernel_rfl
theorem ty152:szT Tryz.prog 152=1∧knownT Tryz.prog 152=true∧aggT Tryz.prog 152=false∧slT Tryz.prog 152=some 27∧ifT Tryz.prog 152=false∧byT Tryz.prog 152=24∧zeroT Tryz.prog 152=some [.slice none 0 0]:=by and_intros <;> kernel_rfl
theorem ty155:szT Tryz.prog 155=1∧knownT Tryz.prog 155=true∧aggT Tryz.prog 155=false∧ifT Tryz.prog 155=false∧byT Tryz.prog 155=8∧zeroT Tryz.prog 155=some [.nilFunc]:=by and_intros <;> kernel_rfl
theorem sz162:szT Tryz.prog 162=1:=by kernel_rfl
theorem kn162:knownT Tryz.prog 162=true:=by kernel_rfl
theorem ag162:aggT Tryz.prog 162=false:=by kernel_rfl
theorem in162:intT Tryz.prog 162=some .u64:=by kernel_rfl
theorem if162:ifT Tryz.prog 162=false:=by kernel_rfl
theorem by162:byT Tryz.prog 162=8:=by kernel_rfl
theorem ze162:zeroT Tryz.prog 162=some [.int .u64 0]:=by kernel_rfl
theorem ty166:szT Tryz.prog 166=1∧knownT Tryz.prog 166=true∧aggT Tryz.prog 166=false∧ifT Tryz.prog 166=false∧byT Tryz.prog 166=8∧zeroT Tryz.prog 166=some [.nilFunc]:=by and_intros <;> kernel_rfl
theorem ty169:szT Tryz.prog 169=9∧knownT Tryz.prog 169=true∧aggT Tryz.prog 169=true∧ifT Tryz.prog 169=false∧byT Tryz.prog 169=152∧zeroT Tryz.prog 169=some [.int .i64 0,.int .i64 0,.slice none 0 0,.slice none 0 0,.slice none 0 0,.int .i64 0,.int .i64 0,.slice none 0 0,.slice none 0 0]∧fullT Tryz.prog 169=true∧fldT Tryz.prog 169 0=some (0,30)∧fldT Tryz.prog 169 1=some (8,24):=by and_intros <;> kernel_rfl
theorem ty170:szT Tryz.prog 170=1∧knownT Tryz.prog 170=true∧aggT Tryz.prog 170=false∧ifT Tryz.prog 170=false∧byT Tryz.prog 170=8∧zeroT Tryz.prog 170=some [.nilFunc]:=by and_intros <;> kernel_rfl
theorem ty173:szT Tryz.prog 173=4∧knownT Tryz.prog 173=true∧aggT Tryz.prog 173=true∧ifT Tryz.prog 173=false∧byT Tryz.prog 173=32∧zeroT Tryz.prog 173=some [.int .i64 0,.nilFunc,.nilFunc,.nilFunc]∧fullT Tryz.prog 173=true∧fldT Tryz.prog 173 0=some (0,3)∧fldT Tryz.prog 173 1=some (1,166)∧fldT Tryz.prog 173 2=some (2,170)∧fldT Tryz.prog 173 3=some (3,81):=by and_intros <;> kernel_rfl
theorem zd173:zeroD Tryz.prog 173=some (.tup [.raw (.int .i64 0),.raw (.nilFunc),.raw (.nilFunc),.raw (.nilFunc)]):=by kernel_rfl
theorem ty176:szT Tryz.prog 176=1∧knownT Tryz.prog 176=true∧aggT Tryz.prog 176=false∧ifT Tryz.prog 176=false∧byT Tryz.prog 176=8∧zeroT Tryz.prog 176=some [.nilFunc]:=by and_intros <;> kernel_rfl
theorem ty194:szT Tryz.prog 194=1∧knownT Tryz.prog 194=true∧aggT Tryz.prog 194=false∧intT Tryz.prog 194=some .i64∧ifT Tryz.prog 194=false∧byT Tryz.prog 194=8∧zeroT Tryz.prog 194=some [.int .i64 0]:=by and_intros <;> kernel_rfl
theorem ty201:szT Tryz.prog 201=1∧knownT Tryz.prog 201=true∧aggT Tryz.prog 201=false∧intT Tryz.prog 201=some .u32∧ifT Tryz.prog 201=false∧byT Tryz.prog 201=4∧zeroT Tryz.prog 201=some [.int .u32 0]:=by and_intros <;> kernel_rfl
theorem ty203:szT Tryz.prog 203=1∧knownT Tryz.prog 203=true∧aggT Tryz.prog 203=false∧intT Tryz.prog 203=some .u64∧ifT Tryz.prog 203=false∧byT Tryz.prog 203=8∧zeroT Tryz.prog 203=some [.int .u64 0]:=by and_intros <;> kernel_rfl
theorem ty208:szT Tryz.prog 208=1∧knownT Tryz.prog 208=true∧aggT Tryz.prog 208=false∧ifT Tryz.prog 208=false∧byT Tryz.prog 208=8∧zeroT Tryz.prog 208=some [.nilFunc]:=by and_intros <;> kernel_rfl
theorem ty221:szT Tryz.prog 221=1∧knownT Tryz.prog 221=true∧aggT Tryz.prog 221=false∧ifT Tryz.prog 221=false∧byT Tryz.prog 221=8∧zeroT Tryz.prog 221=some [.nilFunc]:=by and_intros <;> kernel_rfl
theorem ty227:szT Tryz.prog 227=1∧knownT Tryz.prog 227=true∧aggT Tryz.prog 227=false∧ifT Tryz.prog 227=false∧byT Tryz.prog 227=8∧zeroT Tryz.prog 227=some [.nilFunc]:=by and_intros <;> kernel_rfl
theorem ty229:szT Tryz.prog 229=1∧knownT Tryz.prog 229=true∧aggT Tryz.prog 229=false∧ifT Tryz.prog 229=false∧byT Tryz.prog 229=8∧zeroT Tryz.prog 229=some [.nilFunc]:=by and_intros <;> kernel_rfl
theorem ty236:szT Tryz.prog 236=1∧knownT Tryz.prog 236=true∧aggT Tryz.prog 236=false∧ifT Tryz.prog 236=false∧byT Tryz.prog 236=8∧zeroT Tryz.prog 236=some [.nilFunc]:=by and_intros <;> kernel_rfl
theorem ty237:szT Tryz.prog 237=1∧knownT Tryz.prog 237=true∧aggT Tryz.prog 237=false∧ifT Tryz.prog 237=false∧byT Tryz.prog 237=8∧zeroT Tryz.prog 237=some [.map none]:=by and_intros <;> kernel_rfl
theorem mp237:mpT Tryz.prog 237=some (9,.string,3):=by kernel_rfl
theorem ty243:szT Tryz.prog 243=1∧knownT Tryz.prog 243=true∧aggT Tryz.prog 243=false∧intT Tryz.prog 243=some .u64∧ifT Tryz.prog 243=false∧byT Tryz.prog 243=8∧zeroT Tryz.prog 243=some [.int .u64 0]:=by and_intros <;> kernel_rfl
theorem ty247:szT Tryz.prog 247=1∧knownT Tryz.prog 247=true∧aggT Tryz.prog 247=false∧ifT Tryz.prog 247=false∧byT Tryz.prog 247=8∧zeroT Tryz.prog 247=some [.pointer none]:=by and_intros <;> kernel_rfl
theorem ty252:szT Tryz.prog 252=1∧knownT Tryz.prog 252=true∧aggT Tryz.prog 252=false∧slT Tryz.prog 252=some 255∧ifT Tryz.prog 252=false∧byT Tryz.prog 252=24∧zeroT Tryz.prog 252=some [.slice none 0 0]:=by and_intros <;> kernel_rfl
theorem ty255:szT Tryz.prog 255=2∧knownT Tryz.prog 255=true∧aggT Tryz.prog 255=true∧ifT Tryz.prog 255=false∧byT Tryz.prog 255=16∧zeroT Tryz.prog 255=some [.int .i64 0,.nilFunc]∧fullT Tryz.prog 255=true∧fldT Tryz.prog 255 0=some (0,3)∧fldT Tryz.prog 255 1=some (1,104):=by and_intros <;> kernel_rfl
theorem ty256:szT Tryz.prog 256=1∧knownT Tryz.prog 256=true∧aggT Tryz.prog 256=false∧ifT Tryz.prog 256=false∧byT Tryz.prog 256=8∧zeroT Tryz.prog 256=some [.pointer none]:=by and_intros <;> kernel_rfl
theorem ty286:szT Tryz.prog 286=0∧knownT Tryz.prog 286=true∧aggT Tryz.prog 286=true∧ifT Tryz.prog 286=false∧byT Tryz.prog 286=0∧zeroT Tryz.prog 286=some []∧fullT Tryz.prog 286=true:=by and_intros <;> kernel_rfl
theorem ty287:szT Tryz.prog 287=0∧knownT Tryz.prog 287=true∧aggT Tryz.prog 287=true∧ifT Tryz.prog 287=false∧byT Tryz.prog 287=0∧zeroT Tryz.prog 287=some []∧fullT Tryz.prog 287=true:=by and_intros <;> kernel_rfl
theorem ty289:szT Tryz.prog 289=1∧knownT Tryz.prog 289=true∧aggT Tryz.prog 289=true∧ifT Tryz.prog 289=false∧byT Tryz.prog 289=4∧zeroT Tryz.prog 289=some [.int .u32 0]∧fldT Tryz.prog 289 0=some (0,287)∧fldT Tryz.prog 289 1=some (0,201):=by and_intros <;> kernel_rfl
theorem ty291:szT Tryz.prog 291=2∧knownT Tryz.prog 291=true∧aggT Tryz.prog 291=true∧ifT Tryz.prog 291=false∧byT Tryz.prog 291=8∧zeroT Tryz.prog 291=some [.int .i32 0,.int .u32 0]∧fullT Tryz.prog 291=true∧fldT Tryz.prog 291 0=some (0,21)∧fldT Tryz.prog 291 1=some (1,201):=by and_intros <;> kernel_rfl
theorem ty293:szT Tryz.prog 293=2∧knownT Tryz.prog 293=true∧aggT Tryz.prog 293=true∧ifT Tryz.prog 293=false∧byT Tryz.prog 293=8∧zeroT Tryz.prog 293=some [.int .i32 0,.int .u32 0]∧fldT Tryz.prog 293 0=some (0,286)∧fldT Tryz.prog 293 1=some (0,291):=by and_intros <;> kernel_rfl
theorem ty295:szT Tryz.prog 295=3∧knownT Tryz.prog 295=true∧aggT Tryz.prog 295=true∧ifT Tryz.prog 295=false∧byT Tryz.prog 295=12∧zeroT Tryz.prog 295=some [.int .u32 0,.int .i32 0,.int .u32 0]∧fldT Tryz.prog 295 0=some (0,286)∧fldT Tryz.prog 295 1=some (0,289)∧fldT Tryz.prog 295 2=some (1,293):=by and_intros <;> kernel_rfl
theorem ty299:szT Tryz.prog 299=5∧knownT Tryz.prog 299=true∧aggT Tryz.prog 299=true∧ifT Tryz.prog 299=false∧byT Tryz.prog 299=56∧zeroT Tryz.prog 299=some [.int .u32 0,.int .i32 0,.int .u32 0,.nilIface,.slice none 0 0]∧fullT Tryz.prog 299=true∧fldT Tryz.prog 299 0=some (0,295)∧fldT Tryz.prog 299 1=some (3,297)∧fldT Tryz.prog 299 2=some (4,82):=by and_intros <;> kernel_rfl
theorem ty310:szT Tryz.prog 310=1∧knownT Tryz.prog 310=true∧aggT Tryz.prog 310=false∧ifT Tryz.prog 310=false∧byT Tryz.prog 310=8∧zeroT Tryz.prog 310=some [.pointer none]:=by and_intros <;> kernel_rfl
theorem sz311:szT Tryz.prog 311=1:=by kernel_rfl
theorem ty311:knownT Tryz.prog 311=true∧aggT Tryz.prog 311=false∧ifT Tryz.prog 311=false∧byT Tryz.prog 311=24∧zeroT Tryz.prog 311=some [.slice none 0 0]:=by and_intros <;> kernel_rfl
theorem sl311:slT Tryz.prog 311=some 5:=by kernel_rfl
theorem ty313:szT Tryz.prog 313=2∧knownT Tryz.prog 313=true∧aggT Tryz.prog 313=true∧ifT Tryz.prog 313=false∧byT Tryz.prog 313=32∧fullT Tryz.prog 313=true∧fldT Tryz.prog 313 0=some (0,310)∧fldT Tryz.prog 313 1=some (1,311):=by and_intros <;> kernel_rfl
theorem ze313:zeroT Tryz.prog 313=some [.pointer none,.slice none 0 0]:=by kernel_rfl
theorem ty320:szT Tryz.prog 320=1∧knownT Tryz.prog 320=true∧aggT Tryz.prog 320=false∧slT Tryz.prog 320=some 32∧ifT Tryz.prog 320=false∧byT Tryz.prog 320=24∧zeroT Tryz.prog 320=some [.slice none 0 0]:=by and_intros <;> kernel_rfl
theorem ty325:szT Tryz.prog 325=1∧knownT Tryz.prog 325=true∧aggT Tryz.prog 325=false∧ifT Tryz.prog 325=false∧byT Tryz.prog 325=8∧zeroT Tryz.prog 325=some [.pointer none]:=by and_intros <;> kernel_rfl
theorem ty331:szT Tryz.prog 331=1∧knownT Tryz.prog 331=true∧aggT Tryz.prog 331=false∧ifT Tryz.prog 331=false∧byT Tryz.prog 331=8∧zeroT Tryz.prog 331=some [.pointer none]:=by and_intros <;> kernel_rfl
theorem ty335:szT Tryz.prog 335=1∧knownT Tryz.prog 335=true∧aggT Tryz.prog 335=false∧ifT Tryz.prog 335=false∧byT Tryz.prog 335=8∧zeroT Tryz.prog 335=some [.pointer none]:=by and_intros <;> kernel_rfl
theorem ty337:szT Tryz.prog 337=1∧knownT Tryz.prog 337=true∧aggT Tryz.prog 337=false∧ifT Tryz.prog 337=false∧byT Tryz.prog 337=8∧zeroT Tryz.prog 337=some [.pointer none]:=by and_intros <;> kernel_rfl
theorem ty339:szT Tryz.prog 339=1∧knownT Tryz.prog 339=true∧aggT Tryz.prog 339=false∧ifT Tryz.prog 339=false∧byT Tryz.prog 339=8∧zeroT Tryz.prog 339=some [.pointer none]:=by and_intros <;> kernel_rfl
theorem ty342:szT Tryz.prog 342=256∧knownT Tryz.prog 342=true∧aggT Tryz.prog 342=true∧ifT Tryz.prog 342=false∧byT Tryz.prog 342=256:=by and_intros <;> kernel_rfl
theorem ty343:szT Tryz.prog 343=1∧knownT Tryz.prog 343=true∧aggT Tryz.prog 343=false∧ifT Tryz.prog 343=false∧byT Tryz.prog 343=8∧zeroT Tryz.prog 343=some [.pointer none]:=by and_intros <;> kernel_rfl
theorem ty344:szT Tryz.prog 344=256∧knownT Tryz.prog 344=true∧aggT Tryz.prog 344=true∧ifT Tryz.prog 344=false∧byT Tryz.prog 344=6144:=by and_intros <;> kernel_rfl
theorem ty346:szT Tryz.prog 346=257∧knownT Tryz.prog 346=true∧aggT Tryz.prog 346=true∧ifT Tryz.prog 346=false∧byT Tryz.prog 346=6168∧fullT Tryz.prog 346=true∧fldT Tryz.prog 346 0=some (0,344)∧fldT Tryz.prog 346 1=some (256,82):=by and_intros <;> kernel_rfl
theorem ty347:szT Tryz.prog 347=1∧knownT Tryz.prog 347=true∧aggT Tryz.prog 347=false∧ifT Tryz.prog 347=false∧byT Tryz.prog 347=8∧zeroT Tryz.prog 347=some [.pointer none]:=by and_intros <;> kernel_rfl
theorem ty348:szT Tryz.prog 348=24∧knownT Tryz.prog 348=true∧aggT Tryz.prog 348=true∧ifT Tryz.prog 348=false∧byT Tryz.prog 348=24∧zeroT Tryz.prog 348=some [.int .u8 0,.int .u8 0,.int .u8 0,.int .u8 0,.int .u8 0,.int .u8 0,.int .u8 0,.int .u8 0,.int .u8 0,.int .u8 0,.int .u8 0,.int .u8 0,.int .u8 0,.int .u8 0,.int .u8 0,.int .u8 0,.int .u8 0,.int .u8 0,.int .u8 0,.int .u8 0,.int .u8 0,.int .u8 0,.int .u8 0,.int .u8 0]:=by and_intros <;> kernel_rfl
theorem ty353:szT Tryz.prog 353=1∧knownT Tryz.prog 353=true∧aggT Tryz.prog 353=false∧ifT Tryz.prog 353=false∧byT Tryz.prog 353=8∧zeroT Tryz.prog 353=some [.pointer none]:=by and_intros <;> kernel_rfl
theorem ty370:szT Tryz.prog 370=20∧knownT Tryz.prog 370=true∧aggT Tryz.prog 370=true∧ifT Tryz.prog 370=false∧byT Tryz.prog 370=160∧zeroT Tryz.prog 370=some [.int .u64 0,.int .u64 0,.int .u64 0,.int .u64 0,.int .u64 0,.int .u64 0,.int .u64 0,.int .u64 0,.int .u64 0,.int .u64 0,.int .u64 0,.int .u64 0,.int .u64 0,.int .u64 0,.int .u64 0,.int .u64 0,.int .u64 0,.int .u64 0,.int .u64 0,.int .u64 0]:=by and_intros <;> kernel_rfl
theorem ty371:szT Tryz.prog 371=65∧knownT Tryz.prog 371=true∧aggT Tryz.prog 371=true∧ifT Tryz.prog 371=false∧byT Tryz.prog 371=65:=by and_intros <;> kernel_rfl
theorem ty372:szT Tryz.prog 372=1∧knownT Tryz.prog 372=true∧aggT Tryz.prog 372=false∧ifT Tryz.prog 372=false∧byT Tryz.prog 372=8∧zeroT Tryz.prog 372=some [.pointer none]:=by and_intros <;> kernel_rfl
theorem ty374:szT Tryz.prog 374=1∧knownT Tryz.prog 374=true∧aggT Tryz.prog 374=false∧ifT Tryz.prog 374=false∧byT Tryz.prog 374=8∧zeroT Tryz.prog 374=some [.pointer none]:=by and_intros <;> kernel_rfl
theorem ty384:szT Tryz.prog 384=32∧knownT Tryz.prog 384=true∧aggT Tryz.prog 384=true∧ifT Tryz.prog 384=false∧byT Tryz.prog 384=32∧zeroT Tryz.prog 384=some [.int .u8 0,.int .u8 0,.int .u8 0,.int .u8 0,.int .u8 0,.int .u8 0,.int .u8 0,.int .u8 0,.int .u8 0,.int .u8 0,.int .u8 0,.int .u8 0,.int .u8 0,.int .u8 0,.int .u8 0,.int .u8 0,.int .u8 0,.int .u8 0,.int .u8 0,.int .u8 0,.int .u8 0,.int .u8 0,.int .u8 0,.int .u8 0,.int .u8 0,.int .u8 0,.int .u8 0,.int .u8 0,.int .u8 0,.int .u8 0,.int .u8 0,.int .u8 0]:=by and_intros <;> kernel_rfl
theorem ty385:szT Tryz.prog 385=64∧knownT Tryz.prog 385=true∧aggT Tryz.prog 385=true∧ifT Tryz.prog 385=false∧byT Tryz.prog 385=64:=by and_intros <;> kernel_rfl
theorem mixed:Tryz.prog.follows .mixedOrders=true:=by kernel_rfl
end Go.Proofs.YtjbhhddfaohdnaaGreatDoor
