/- A part of the proof. -/
import Derived.Test.YtjbhhddfaohdnaaGreatDoorPThD
import Derived.Test.YtjbhhddfaohdnaaGreatDoorProg
set_option linter.all false
set_option linter.deprecated false
open ByteArray renaming empty→akf
open Go.Proofs.Tryz renaming prog→abo
namespace Go.Proofs.Z
open Go Go.au
set_option maxRecDepth 100000
theorem xu:aV abo 3=1:=by kernel_rfl
theorem kn3:bC abo 3=true:=by kernel_rfl
theorem ag3:dU abo 3=false:=by kernel_rfl
theorem in3:Ci abo 3=some .i64:=by kernel_rfl
theorem BJ:kH abo 3=8:=by kernel_rfl
theorem xw:bQ abo 3=some [.int .i64 0]:=by kernel_rfl
theorem zd3:Cj abo 3=some (.raw (.int .i64 0)):=by kernel_rfl
theorem zd4:Cj abo 4=some (.raw (.bool false)):=by kernel_rfl
theorem sz5:aV abo 5=1:=by kernel_rfl
theorem LJ:Ci abo 5=some .u8:=by kernel_rfl
theorem ty5:bQ abo 5=some [.int .u8 0]:=by kernel_rfl
theorem Jo:aV abo 9=1:=by kernel_rfl
theorem ty9:bC abo 9=true∧dU abo 9=false:=by and_intros <;> kernel_rfl
theorem LK:Ce abo 9=true:=by kernel_rfl
theorem Jp:kH abo 9=16:=by kernel_rfl
theorem Jq:bQ abo 9=some [.string akf]:=by kernel_rfl
theorem akN:aV abo 22=1∧bC abo 22=true∧dU abo 22=false∧fA abo 22=some 74:=by and_intros <;> kernel_rfl
theorem akO:aV abo 24=1∧bC abo 24=true∧dU abo 24=true∧bQ abo 24=some [.slice none 0 0]∧mO abo 24=true∧dP abo 24 0=some (0,22):=by and_intros <;> kernel_rfl
theorem akP:aV abo 25=1∧bC abo 25=true∧dU abo 25=false∧fA abo 25=some 30:=by and_intros <;> kernel_rfl
theorem akQ:aV abo 26=1∧bC abo 26=true∧dU abo 26=false∧fA abo 26=some 80:=by and_intros <;> kernel_rfl
theorem adY:aV abo 27=1:=by kernel_rfl
theorem adZ:bC abo 27=true:=by kernel_rfl
theorem ad1:dU abo 27=false:=by kernel_rfl
theorem sl27:fA abo 27=some 3:=by kernel_rfl
theorem ad2:bQ abo 27=some [.slice none 0 0]:=by kernel_rfl
theorem akR:aV abo 28=1∧bC abo 28=true∧dU abo 28=false∧bQ abo 28=some [.slice none 0 0]:=by and_intros <;> kernel_rfl
theorem sl28:fA abo 28=some 84:=by kernel_rfl
theorem akS:aV abo 30=8∧bC abo 30=true∧dU abo 30=true∧bQ abo 30=some [.int .i64 0,.int .i64 0,.slice none 0 0,.slice none 0 0,.slice none 0 0,.int .i64 0,.int .i64 0,.slice none 0 0]∧mO abo 30=true∧dP abo 30 0=some (0,3)∧dP abo 30 1=some (1,3)∧dP abo 30 2=some (2,25)∧dP abo 30 3=some (3,26)∧dP abo 30 4=some (4,27)∧dP abo 30 5=some (5,3)∧dP abo 30 6=some (6,3)∧dP abo 30 7=some (7,28):=by and_intros <;> kernel_rfl
theorem akT:aV abo 31=1∧bC abo 31=true∧dU abo 31=false∧fA abo 31=some 57:=by and_intros <;> kernel_rfl
theorem akU:aV abo 32=1∧bC abo 32=true∧dU abo 32=false∧bQ abo 32=some [.slice none 0 0]:=by and_intros <;> kernel_rfl
theorem pO:fA abo 32=some 53:=by kernel_rfl
theorem zh:aV abo 33=1:=by kernel_rfl
theorem Zo:bC abo 33=true:=by kernel_rfl
theorem Zp:dU abo 33=false:=by kernel_rfl
theorem zi:fA abo 33=some 39:=by kernel_rfl
theorem Dp:kH abo 33=24:=by kernel_rfl
theorem Dq:bQ abo 33=some [.slice none 0 0]:=by kernel_rfl
theorem Zq:aV abo 37=1:=by kernel_rfl
theorem akV:bC abo 37=true∧dU abo 37=false:=by and_intros <;> kernel_rfl
theorem Dt:fA abo 37=some 76:=by kernel_rfl
theorem Zr:kH abo 37=24:=by kernel_rfl
theorem Zt:bQ abo 37=some [.slice none 0 0]:=by kernel_rfl
theorem xO:aV abo 39=2:=by kernel_rfl
theorem ad3:bC abo 39=true:=by kernel_rfl
theorem ad4:dU abo 39=true:=by kernel_rfl
theorem zk:kH abo 39=48:=by kernel_rfl
theorem zl:bQ abo 39=some [.slice none 0 0,.slice none 0 0]:=by kernel_rfl
theorem Zu:Cj abo 39=some (.ak [.raw (.slice none 0 0),.raw (.slice none 0 0)]):=by kernel_rfl
theorem akW:mO abo 39=true∧dP abo 39 0=some (0,37)∧dP abo 39 1=some (1,32):=by and_intros <;> kernel_rfl
theorem Zv:aV abo 40=1:=by kernel_rfl
theorem Zw:bC abo 40=true:=by kernel_rfl
theorem Zx:dU abo 40=false:=by kernel_rfl
theorem akX:ifT abo 40=false∧bQ abo 40=some [.int .i64 0]:=by and_intros <;> kernel_rfl
theorem Zy:fA abo 47=some 37:=by kernel_rfl
theorem nS:aV abo 53=2:=by kernel_rfl
theorem Zz:bC abo 53=true:=by kernel_rfl
theorem ZA:dU abo 53=true:=by kernel_rfl
theorem qm:kH abo 53=48:=by kernel_rfl
theorem pR:bQ abo 53=some [.slice none 0 0,.slice none 0 0]:=by kernel_rfl
theorem akY:mO abo 53=true∧dP abo 53 0=some (0,27)∧dP abo 53 1=some (1,27):=by and_intros <;> kernel_rfl
theorem akZ:aV abo 57=6∧bC abo 57=true∧dU abo 57=true∧bQ abo 57=some [.int .i64 0,.int .i64 0,.int .i64 0,.slice none 0 0,.int .i64 0,.slice none 0 0]∧mO abo 57=true∧dP abo 57 0=some (0,3)∧dP abo 57 3=some (3,37):=by and_intros <;> kernel_rfl
theorem Du:fA abo 59=some 33:=by kernel_rfl
theorem ak0:fA abo 65=some 47:=by kernel_rfl
theorem ak1:aV abo 74=3∧bC abo 74=true∧dU abo 74=true∧bQ abo 74=some [.string akf,.slice none 0 0,.slice none 0 0]∧mO abo 74=true∧dP abo 74 0=some (0,9)∧dP abo 74 1=some (1,28)∧dP abo 74 2=some (2,27):=by and_intros <;> kernel_rfl
theorem Dv:aV abo 76=3:=by kernel_rfl
theorem ak2:bC abo 76=true∧dU abo 76=true∧VW abo 76=some [0,0,1]∧mO abo 76=true∧dP abo 76 0=some (0,3)∧dP abo 76 1=some (1,3)∧dP abo 76 2=some (2,9):=by and_intros <;> kernel_rfl
theorem H6:kH abo 76=32:=by kernel_rfl
theorem Dw:bQ abo 76=some [.int .i64 0,.int .i64 0,.string akf]:=by kernel_rfl
theorem ak3:aV abo 78=5∧bC abo 78=true∧dU abo 78=true∧bQ abo 78=some [.int .i64 0,.int .i64 0,.int .i64 0,.int .i64 0,.string akf]∧mO abo 78=true∧dP abo 78 0=some (0,3)∧dP abo 78 1=some (1,3)∧dP abo 78 2=some (2,76):=by and_intros <;> kernel_rfl
theorem ak4:aV abo 80=12∧bC abo 80=true∧dU abo 80=true∧bQ abo 80=some [.int .i64 0,.int .i64 0,.int .i64 0,.int .i64 0,.string akf,.int .i64 0,.int .i64 0,.int .i64 0,.int .i64 0,.int .i64 0,.string akf,.int .i64 0]∧mO abo 80=true∧dP abo 80 0=some (0,78)∧dP abo 80 1=some (5,3)∧dP abo 80 2=some (6,78)∧dP abo 80 3=some (11,3):=by and_intros <;> kernel_rfl
theorem ak5:aV abo 81=1∧bC abo 81=true∧dU abo 81=false:=by and_intros <;> kernel_rfl
theorem ak6:aV abo 82=1∧bC abo 82=true∧dU abo 82=false:=by and_intros <;> kernel_rfl
theorem Az:fA abo 82=some 9:=by kernel_rfl
theorem su:aV abo 84=6:=by kernel_rfl
theorem ak7:bC abo 84=true∧dU abo 84=true∧mO abo 84=true∧dP abo 84 0=some (0,9)∧dP abo 84 1=some (1,3)∧dP abo 84 2=some (2,82)∧dP abo 84 3=some (3,76):=by and_intros <;> kernel_rfl
theorem uK:kH abo 84=80:=by kernel_rfl
theorem sD:bQ abo 84=some [.string akf,.int .i64 0,.slice none 0 0,.int .i64 0,.int .i64 0,.string akf]:=by kernel_rfl
theorem ad5:aV abo 95=1:=by kernel_rfl
theorem ak8:bC abo 95=true∧dU abo 95=false:=by and_intros <;> kernel_rfl
theorem qo:pV abo 95=some (9,.string,39):=by kernel_rfl
theorem ad6:kH abo 95=8:=by kernel_rfl
theorem ad7:bQ abo 95=some [.map none]:=by kernel_rfl
theorem ahE:aV abo 104=1∧bC abo 104=true∧dU abo 104=false:=by and_intros <;> kernel_rfl
theorem ahF:aV abo 105=1∧bC abo 105=true∧dU abo 105=false∧bQ abo 105=some [.nilFunc]:=by and_intros <;> kernel_rfl
theorem ahG:aV abo 113=1∧bC abo 113=true∧dU abo 113=false∧bQ abo 113=some [.map none]:=by and_intros <;> kernel_rfl
theorem Jr:pV abo 113=some (3,.int .i64,4):=by kernel_rfl
theorem uM:pV abo 119=some (3,.int .i64,173):=by kernel_rfl
theorem ahH:aV abo 135=1∧bC abo 135=true∧dU abo 135=false:=by and_intros <;> kernel_rfl
theorem abI:fA abo 135=some 95:=by kernel_rfl
theorem ahI:aV abo 137=10∧bC abo 137=true∧dU abo 137=true∧bQ abo 137=some [.int .i64 0,.int .i64 0,.slice none 0 0,.slice none 0 0,.slice none 0 0,.int .i64 0,.int .i64 0,.slice none 0 0,.slice none 0 0,.slice none 0 0]∧mO abo 137=true∧dP abo 137 0=some (0,30)∧dP abo 137 1=some (8,31)∧dP abo 137 2=some (9,135):=by and_intros <;> kernel_rfl
theorem oH:pV abo 139=some (3,.int .i64,138):=by kernel_rfl
theorem ahJ:fA abo 152=some 27:=by kernel_rfl
theorem abJ:bC abo 162=true:=by kernel_rfl
theorem abK:Ci abo 162=some .u64:=by kernel_rfl
theorem ahK:aV abo 166=1∧bC abo 166=true∧dU abo 166=false:=by and_intros <;> kernel_rfl
theorem ahL:bQ abo 169=some [.int .i64 0,.int .i64 0,.slice none 0 0,.slice none 0 0,.slice none 0 0,.int .i64 0,.int .i64 0,.slice none 0 0,.slice none 0 0]∧mO abo 169=true∧dP abo 169 0=some (0,30)∧dP abo 169 1=some (8,24):=by and_intros <;> kernel_rfl
theorem ahM:aV abo 170=1:=by kernel_rfl
theorem ahN:aV abo 173=4∧bQ abo 173=some [.int .i64 0,.nilFunc,.nilFunc,.nilFunc]∧mO abo 173=true∧dP abo 173 0=some (0,3)∧dP abo 173 1=some (1,166)∧dP abo 173 2=some (2,170)∧dP abo 173 3=some (3,81):=by and_intros <;> kernel_rfl
theorem abL:Cj abo 173=some (.ak [.raw (.int .i64 0),.raw (.nilFunc),.raw (.nilFunc),.raw (.nilFunc)]):=by kernel_rfl
theorem ahO:aV abo 236=1∧bC abo 236=true∧dU abo 236=false∧bQ abo 236=some [.nilFunc]:=by and_intros <;> kernel_rfl
theorem NS:pV abo 237=some (9,.string,3):=by kernel_rfl
theorem ahP:fA abo 252=some 255:=by kernel_rfl
theorem ahQ:aV abo 255=2∧bC abo 255=true∧dU abo 255=true∧bQ abo 255=some [.int .i64 0,.nilFunc]∧mO abo 255=true∧dP abo 255 0=some (0,3)∧dP abo 255 1=some (1,104):=by and_intros <;> kernel_rfl
theorem ahR:bQ abo 299=some [.int .u32 0,.int .i32 0,.int .u32 0,.nilIface,.slice none 0 0]∧mO abo 299=true∧dP abo 299 2=some (4,82):=by and_intros <;> kernel_rfl
theorem Ua:aV abo 311=1:=by kernel_rfl
theorem ahS:bC abo 311=true∧dU abo 311=false:=by and_intros <;> kernel_rfl
theorem nK:fA abo 311=some 5:=by kernel_rfl
theorem abM:bQ abo 313=some [.pointer none,.slice none 0 0]:=by kernel_rfl
theorem ahT:fA abo 320=some 32:=by kernel_rfl
theorem ahU:aV abo 344=256:=by kernel_rfl
theorem ahV:dP abo 346 0=some (0,344)∧dP abo 346 1=some (256,82):=by and_intros <;> kernel_rfl
theorem mixed:abo.follows .mixedOrders=true:=by kernel_rfl
end Go.Proofs.Z
