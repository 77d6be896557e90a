/- A part of the proof. -/
import Derived.Test.YtjbhhddfaohdnaaGreatDoorPThD
import Derived.Test.YtjbhhddfaohdnaaGreatDoorProg
set_option linter.all false
set_option linter.deprecated false
open ByteArray renaming empty→ajl
open Go.Proofs.Tryz renaming prog→aai
namespace Go.Proofs.Z
open Go Go.au
set_option maxRecDepth 100000
theorem EW:aO aai 3=1:=by kernel_rfl
theorem kn3:aW aai 3=true:=by kernel_rfl
theorem ag3:dP aai 3=false:=by kernel_rfl
theorem in3:DI aai 3=some .i64:=by kernel_rfl
theorem FU:nJ aai 3=8:=by kernel_rfl
theorem EX:bM aai 3=some [.int .i64 0]:=by kernel_rfl
theorem zd3:Ap aai 3=some (.raw (.int .i64 0)):=by kernel_rfl
theorem zd4:Ap aai 4=some (.raw (.bool false)):=by kernel_rfl
theorem sz5:aO aai 5=1:=by kernel_rfl
theorem ty5:aW aai 5=true∧bM aai 5=some [.int .u8 0]:=by and_intros <;> kernel_rfl
theorem Oo:DI aai 5=some .u8:=by kernel_rfl
theorem Q8:aO aai 9=1:=by kernel_rfl
theorem ty9:aW aai 9=true∧dP aai 9=false:=by and_intros <;> kernel_rfl
theorem Oq:DF aai 9=true:=by kernel_rfl
theorem Q9:nJ aai 9=16:=by kernel_rfl
theorem Rh:bM aai 9=some [.string ajl]:=by kernel_rfl
theorem anz:aO aai 22=1∧aW aai 22=true∧dP aai 22=false∧fA aai 22=some 74:=by and_intros <;> kernel_rfl
theorem anA:aO aai 24=1∧aW aai 24=true∧dP aai 24=true∧bM aai 24=some [.slice none 0 0]∧lU aai 24=true∧dO aai 24 0=some (0,22):=by and_intros <;> kernel_rfl
theorem anB:aO aai 25=1∧aW aai 25=true∧dP aai 25=false∧fA aai 25=some 30:=by and_intros <;> kernel_rfl
theorem anC:aO aai 26=1∧aW aai 26=true∧dP aai 26=false∧fA aai 26=some 80:=by and_intros <;> kernel_rfl
theorem agC:aO aai 27=1:=by kernel_rfl
theorem agD:aW aai 27=true:=by kernel_rfl
theorem agE:dP aai 27=false:=by kernel_rfl
theorem sl27:fA aai 27=some 3:=by kernel_rfl
theorem agF:bM aai 27=some [.slice none 0 0]:=by kernel_rfl
theorem anD:aO aai 28=1∧aW aai 28=true∧dP aai 28=false∧bM aai 28=some [.slice none 0 0]:=by and_intros <;> kernel_rfl
theorem sl28:fA aai 28=some 84:=by kernel_rfl
theorem anE:aO aai 30=8∧aW aai 30=true∧dP aai 30=true∧bM aai 30=some [.int .i64 0,.int .i64 0,.slice none 0 0,.slice none 0 0,.slice none 0 0,.int .i64 0,.int .i64 0,.slice none 0 0]∧lU aai 30=true∧dO aai 30 0=some (0,3)∧dO aai 30 1=some (1,3)∧dO aai 30 2=some (2,25)∧dO aai 30 3=some (3,26)∧dO aai 30 4=some (4,27)∧dO aai 30 5=some (5,3)∧dO aai 30 6=some (6,3)∧dO aai 30 7=some (7,28):=by and_intros <;> kernel_rfl
theorem anF:aO aai 31=1∧aW aai 31=true∧dP aai 31=false:=by and_intros <;> kernel_rfl
theorem sl31:fA aai 31=some 57:=by kernel_rfl
theorem anG:aO aai 32=1∧aW aai 32=true∧dP aai 32=false∧bM aai 32=some [.slice none 0 0]:=by and_intros <;> kernel_rfl
theorem FV:fA aai 32=some 53:=by kernel_rfl
theorem abo:aO aai 33=1:=by kernel_rfl
theorem abp:aW aai 33=true:=by kernel_rfl
theorem abq:dP aai 33=false:=by kernel_rfl
theorem anH:fA aai 33=some 39∧bM aai 33=some [.slice none 0 0]:=by and_intros <;> kernel_rfl
theorem rQ:aO aai 37=1:=by kernel_rfl
theorem agG:aW aai 37=true:=by kernel_rfl
theorem agH:dP aai 37=false:=by kernel_rfl
theorem BP:fA aai 37=some 76:=by kernel_rfl
theorem FW:nJ aai 37=24:=by kernel_rfl
theorem Ej:bM aai 37=some [.slice none 0 0]:=by kernel_rfl
theorem agI:aO aai 39=2:=by kernel_rfl
theorem agJ:aW aai 39=true:=by kernel_rfl
theorem agK:dP aai 39=true:=by kernel_rfl
theorem anI:bM aai 39=some [.slice none 0 0,.slice none 0 0]∧lU aai 39=true∧dO aai 39 0=some (0,37)∧dO aai 39 1=some (1,32):=by and_intros <;> kernel_rfl
theorem abr:Ap aai 39=some (.ak [.raw (.slice none 0 0),.raw (.slice none 0 0)]):=by kernel_rfl
theorem WE:aO aai 40=1:=by kernel_rfl
theorem WG:aW aai 40=true:=by kernel_rfl
theorem WH:dP aai 40=false:=by kernel_rfl
theorem anJ:ifT aai 40=false∧bM aai 40=some [.int .i64 0]:=by and_intros <;> kernel_rfl
theorem WI:aO aai 47=1:=by kernel_rfl
theorem abt:aW aai 47=true:=by kernel_rfl
theorem abu:dP aai 47=false:=by kernel_rfl
theorem lY:fA aai 47=some 37:=by kernel_rfl
theorem abv:nJ aai 47=24:=by kernel_rfl
theorem abw:bM aai 47=some [.slice none 0 0]:=by kernel_rfl
theorem abx:Ap aai 47=some (.raw (.slice none 0 0)):=by kernel_rfl
theorem BQ:aO aai 53=2:=by kernel_rfl
theorem aby:aW aai 53=true:=by kernel_rfl
theorem abz:dP aai 53=true:=by kernel_rfl
theorem FX:nJ aai 53=48:=by kernel_rfl
theorem FY:bM aai 53=some [.slice none 0 0,.slice none 0 0]:=by kernel_rfl
theorem anK:lU aai 53=true∧dO aai 53 0=some (0,27)∧dO aai 53 1=some (1,27):=by and_intros <;> kernel_rfl
theorem agL:aO aai 57=6:=by kernel_rfl
theorem anL:aW aai 57=true∧dP aai 57=true∧lU aai 57=true∧dO aai 57 0=some (0,3)∧dO aai 57 3=some (3,37):=by and_intros <;> kernel_rfl
theorem agM:nJ aai 57=80:=by kernel_rfl
theorem agN:bM aai 57=some [.int .i64 0,.int .i64 0,.int .i64 0,.slice none 0 0,.int .i64 0,.slice none 0 0]:=by kernel_rfl
theorem anM:aO aai 65=1∧aW aai 65=true∧dP aai 65=false:=by and_intros <;> kernel_rfl
theorem abA:fA aai 65=some 47:=by kernel_rfl
theorem anN:aO aai 74=3∧aW aai 74=true∧dP aai 74=true∧bM aai 74=some [.string ajl,.slice none 0 0,.slice none 0 0]∧lU aai 74=true∧dO aai 74 0=some (0,9)∧dO aai 74 1=some (1,28)∧dO aai 74 2=some (2,27):=by and_intros <;> kernel_rfl
theorem yc:aO aai 76=3:=by kernel_rfl
theorem WJ:aW aai 76=true:=by kernel_rfl
theorem agO:dP aai 76=true:=by kernel_rfl
theorem agP:Yk aai 76=some [0,0,1]:=by kernel_rfl
theorem FZ:nJ aai 76=32:=by kernel_rfl
theorem BR:bM aai 76=some [.int .i64 0,.int .i64 0,.string ajl]:=by kernel_rfl
theorem agQ:lU aai 76=true:=by kernel_rfl
theorem YR:dO aai 76 0=some (0,3):=by kernel_rfl
theorem YS:dO aai 76 1=some (1,3):=by kernel_rfl
theorem YT:dO aai 76 2=some (2,9):=by kernel_rfl
theorem anO:aO aai 78=5∧aW aai 78=true∧dP aai 78=true∧bM aai 78=some [.int .i64 0,.int .i64 0,.int .i64 0,.int .i64 0,.string ajl]∧lU aai 78=true∧dO aai 78 0=some (0,3)∧dO aai 78 1=some (1,3)∧dO aai 78 2=some (2,76):=by and_intros <;> kernel_rfl
theorem anP:aO aai 80=12∧aW aai 80=true∧dP aai 80=true∧bM aai 80=some [.int .i64 0,.int .i64 0,.int .i64 0,.int .i64 0,.string ajl,.int .i64 0,.int .i64 0,.int .i64 0,.int .i64 0,.int .i64 0,.string ajl,.int .i64 0]∧lU aai 80=true∧dO aai 80 0=some (0,78)∧dO aai 80 1=some (5,3)∧dO aai 80 2=some (6,78)∧dO aai 80 3=some (11,3):=by and_intros <;> kernel_rfl
theorem anQ:aO aai 81=1∧aW aai 81=true∧dP aai 81=false:=by and_intros <;> kernel_rfl
theorem anR:aO aai 82=1∧aW aai 82=true∧dP aai 82=false:=by and_intros <;> kernel_rfl
theorem F5:fA aai 82=some 9:=by kernel_rfl
theorem zG:aO aai 84=6:=by kernel_rfl
theorem anS:aW aai 84=true∧dP aai 84=true∧lU aai 84=true∧dO aai 84 0=some (0,9)∧dO aai 84 1=some (1,3)∧dO aai 84 2=some (2,82)∧dO aai 84 3=some (3,76):=by and_intros <;> kernel_rfl
theorem BU:nJ aai 84=80:=by kernel_rfl
theorem zH:bM aai 84=some [.string ajl,.int .i64 0,.slice none 0 0,.int .i64 0,.int .i64 0,.string ajl]:=by kernel_rfl
theorem agR:aO aai 95=1:=by kernel_rfl
theorem anT:aW aai 95=true∧dP aai 95=false:=by and_intros <;> kernel_rfl
theorem qA:pF aai 95=some (9,.string,39):=by kernel_rfl
theorem agS:nJ aai 95=8:=by kernel_rfl
theorem agT:bM aai 95=some [.map none]:=by kernel_rfl
theorem akq:aO aai 104=1∧aW aai 104=true∧dP aai 104=false:=by and_intros <;> kernel_rfl
theorem akr:aO aai 105=1∧aW aai 105=true∧dP aai 105=false∧bM aai 105=some [.nilFunc]:=by and_intros <;> kernel_rfl
theorem aks:aO aai 113=1∧aW aai 113=true∧dP aai 113=false∧bM aai 113=some [.map none]:=by and_intros <;> kernel_rfl
theorem KG:pF aai 113=some (3,.int .i64,4):=by kernel_rfl
theorem akt:aO aai 119=1∧aW aai 119=true∧dP aai 119=false:=by and_intros <;> kernel_rfl
theorem sQ:pF aai 119=some (3,.int .i64,173):=by kernel_rfl
theorem aku:bM aai 122=some [.slice none 0 0,.map none]∧lU aai 122=true∧dO aai 122 0=some (0,65)∧dO aai 122 1=some (1,119):=by and_intros <;> kernel_rfl
theorem akv:aO aai 135=1∧aW aai 135=true∧dP aai 135=false:=by and_intros <;> kernel_rfl
theorem adK:fA aai 135=some 95:=by kernel_rfl
theorem akw:aO aai 137=10∧aW aai 137=true∧dP aai 137=true∧bM aai 137=some [.int .i64 0,.int .i64 0,.slice none 0 0,.slice none 0 0,.slice none 0 0,.int .i64 0,.int .i64 0,.slice none 0 0,.slice none 0 0,.slice none 0 0]∧lU aai 137=true∧dO aai 137 0=some (0,30)∧dO aai 137 1=some (8,31)∧dO aai 137 2=some (9,135):=by and_intros <;> kernel_rfl
theorem oN:pF aai 139=some (3,.int .i64,138):=by kernel_rfl
theorem akx:fA aai 152=some 27:=by kernel_rfl
theorem WL:aW aai 162=true:=by kernel_rfl
theorem WM:DI aai 162=some .u64:=by kernel_rfl
theorem aky:aO aai 166=1∧aW aai 166=true∧dP aai 166=false:=by and_intros <;> kernel_rfl
theorem akz:bM aai 169=some [.int .i64 0,.int .i64 0,.slice none 0 0,.slice none 0 0,.slice none 0 0,.int .i64 0,.int .i64 0,.slice none 0 0,.slice none 0 0]∧lU aai 169=true∧dO aai 169 0=some (0,30)∧dO aai 169 1=some (8,24):=by and_intros <;> kernel_rfl
theorem akA:aO aai 170=1∧aW aai 170=true∧dP aai 170=false:=by and_intros <;> kernel_rfl
theorem akB:aO aai 173=4∧bM aai 173=some [.int .i64 0,.nilFunc,.nilFunc,.nilFunc]∧lU aai 173=true∧dO aai 173 0=some (0,3)∧dO aai 173 1=some (1,166)∧dO aai 173 2=some (2,170)∧dO aai 173 3=some (3,81):=by and_intros <;> kernel_rfl
theorem adL:Ap aai 173=some (.ak [.raw (.int .i64 0),.raw (.nilFunc),.raw (.nilFunc),.raw (.nilFunc)]):=by kernel_rfl
theorem akC:aO aai 190=1∧aW aai 190=true∧dP aai 190=false∧bM aai 190=some [.nilFunc]:=by and_intros <;> kernel_rfl
theorem Em:pF aai 214=some (9,.string,47):=by kernel_rfl
theorem akD:aO aai 236=1∧aW aai 236=true∧dP aai 236=false∧bM aai 236=some [.nilFunc]:=by and_intros <;> kernel_rfl
theorem Qb:pF aai 237=some (9,.string,3):=by kernel_rfl
theorem akE:fA aai 252=some 255:=by kernel_rfl
theorem akF:aO aai 255=2∧aW aai 255=true∧dP aai 255=true∧bM aai 255=some [.int .i64 0,.nilFunc]∧lU aai 255=true∧dO aai 255 0=some (0,3)∧dO aai 255 1=some (1,104):=by and_intros <;> kernel_rfl
theorem akG:bM aai 299=some [.int .u32 0,.int .i32 0,.int .u32 0,.nilIface,.slice none 0 0]∧lU aai 299=true∧dO aai 299 2=some (4,82):=by and_intros <;> kernel_rfl
theorem WO:aO aai 311=1:=by kernel_rfl
theorem akH:aW aai 311=true∧dP aai 311=false:=by and_intros <;> kernel_rfl
theorem nP:fA aai 311=some 5:=by kernel_rfl
theorem adM:bM aai 313=some [.pointer none,.slice none 0 0]:=by kernel_rfl
theorem akI:fA aai 320=some 32:=by kernel_rfl
theorem akJ:aO aai 344=256:=by kernel_rfl
theorem akK:dO aai 346 0=some (0,344)∧dO aai 346 1=some (256,82):=by and_intros <;> kernel_rfl
theorem mixed:aai.follows .mixedOrders=true:=by kernel_rfl
end Go.Proofs.Z
