/- A part of the proof. -/
import Derived.Test.YtjbhhddfaohdnaaGreatDoorPThD
import Derived.Test.YtjbhhddfaohdnaaGreatDoorProg
set_option linter.all false
set_option linter.deprecated false
open ByteArray renaming empty→aib
open Go.Proofs.Tryz renaming prog→abZ
namespace Go.Proofs.Z
open Go Go.au
set_option maxRecDepth 100000
theorem MR:aP abZ 3=1:=by kernel_rfl
theorem kn3:aT abZ 3=true:=by kernel_rfl
theorem ag3:dH abZ 3=false:=by kernel_rfl
theorem in3:CB abZ 3=some .i64:=by kernel_rfl
theorem MS:qN abZ 3=8:=by kernel_rfl
theorem MV:bT abZ 3=some [.int .i64 0]:=by kernel_rfl
theorem zd3:zA abZ 3=some (.raw (.int .i64 0)):=by kernel_rfl
theorem ty4:aP abZ 4=1∧aT abZ 4=true∧dH abZ 4=false:=by and_intros <;> kernel_rfl
theorem zd4:zA abZ 4=some (.raw (.bool false)):=by kernel_rfl
theorem sz5:aP abZ 5=1:=by kernel_rfl
theorem MW:CB abZ 5=some .u8:=by kernel_rfl
theorem ty5:bT abZ 5=some [.int .u8 0]:=by kernel_rfl
theorem PW:aP abZ 9=1:=by kernel_rfl
theorem ty9:aT abZ 9=true∧dH abZ 9=false:=by and_intros <;> kernel_rfl
theorem MX:Cm abZ 9=true:=by kernel_rfl
theorem PX:qN abZ 9=16:=by kernel_rfl
theorem PY:bT abZ 9=some [.string aib]:=by kernel_rfl
theorem ald:aP abZ 22=1∧aT abZ 22=true∧dH abZ 22=false∧fC abZ 22=some 74:=by and_intros <;> kernel_rfl
theorem ale:aP abZ 24=1∧aT abZ 24=true∧dH abZ 24=true∧bT abZ 24=some [.slice none 0 0]∧lg abZ 24=true∧dI abZ 24 0=some (0,22):=by and_intros <;> kernel_rfl
theorem alf:aP abZ 25=1∧aT abZ 25=true∧dH abZ 25=false∧fC abZ 25=some 30:=by and_intros <;> kernel_rfl
theorem alg:aP abZ 26=1∧aT abZ 26=true∧dH abZ 26=false∧fC abZ 26=some 80:=by and_intros <;> kernel_rfl
theorem ae3:aP abZ 27=1:=by kernel_rfl
theorem ae4:aT abZ 27=true:=by kernel_rfl
theorem ae5:dH abZ 27=false:=by kernel_rfl
theorem sl27:fC abZ 27=some 3:=by kernel_rfl
theorem ae6:bT abZ 27=some [.slice none 0 0]:=by kernel_rfl
theorem alh:aP abZ 28=1∧aT abZ 28=true∧dH abZ 28=false∧bT abZ 28=some [.slice none 0 0]:=by and_intros <;> kernel_rfl
theorem sl28:fC abZ 28=some 84:=by kernel_rfl
theorem ali:aP abZ 30=8∧aT abZ 30=true∧dH abZ 30=true∧bT abZ 30=some [.int .i64 0,.int .i64 0,.slice none 0 0,.slice none 0 0,.slice none 0 0,.int .i64 0,.int .i64 0,.slice none 0 0]∧lg abZ 30=true∧dI abZ 30 0=some (0,3)∧dI abZ 30 1=some (1,3)∧dI abZ 30 2=some (2,25)∧dI abZ 30 3=some (3,26)∧dI abZ 30 4=some (4,27)∧dI abZ 30 5=some (5,3)∧dI abZ 30 6=some (6,3)∧dI abZ 30 7=some (7,28):=by and_intros <;> kernel_rfl
theorem alj:aP abZ 31=1∧aT abZ 31=true∧dH abZ 31=false∧fC abZ 31=some 57:=by and_intros <;> kernel_rfl
theorem alk:aP abZ 32=1∧aT abZ 32=true∧dH abZ 32=false∧bT abZ 32=some [.slice none 0 0]:=by and_intros <;> kernel_rfl
theorem Iq:fC abZ 32=some 53:=by kernel_rfl
theorem Z8:aP abZ 33=1:=by kernel_rfl
theorem Z9:aT abZ 33=true:=by kernel_rfl
theorem aac:dH abZ 33=false:=by kernel_rfl
theorem alm:fC abZ 33=some 39∧bT abZ 33=some [.slice none 0 0]:=by and_intros <;> kernel_rfl
theorem qU:aP abZ 37=1:=by kernel_rfl
theorem ae7:aT abZ 37=true:=by kernel_rfl
theorem ae8:dH abZ 37=false:=by kernel_rfl
theorem AQ:fC abZ 37=some 76:=by kernel_rfl
theorem EK:qN abZ 37=24:=by kernel_rfl
theorem Dt:bT abZ 37=some [.slice none 0 0]:=by kernel_rfl
theorem ae9:aP abZ 39=2:=by kernel_rfl
theorem afa:aT abZ 39=true:=by kernel_rfl
theorem afb:dH abZ 39=true:=by kernel_rfl
theorem aln:bT abZ 39=some [.slice none 0 0,.slice none 0 0]∧lg abZ 39=true∧dI abZ 39 0=some (0,37)∧dI abZ 39 1=some (1,32):=by and_intros <;> kernel_rfl
theorem aad:zA abZ 39=some (.aj [.raw (.slice none 0 0),.raw (.slice none 0 0)]):=by kernel_rfl
theorem U5:aP abZ 40=1:=by kernel_rfl
theorem U6:aT abZ 40=true:=by kernel_rfl
theorem U7:dH abZ 40=false:=by kernel_rfl
theorem alo:ifT abZ 40=false∧bT abZ 40=some [.int .i64 0]:=by and_intros <;> kernel_rfl
theorem U9:aP abZ 47=1:=by kernel_rfl
theorem aae:aT abZ 47=true:=by kernel_rfl
theorem aaf:dH abZ 47=false:=by kernel_rfl
theorem lG:fC abZ 47=some 37:=by kernel_rfl
theorem aag:qN abZ 47=24:=by kernel_rfl
theorem aah:bT abZ 47=some [.slice none 0 0]:=by kernel_rfl
theorem aai:zA abZ 47=some (.raw (.slice none 0 0)):=by kernel_rfl
theorem Du:aP abZ 53=2:=by kernel_rfl
theorem aaj:aT abZ 53=true:=by kernel_rfl
theorem aak:dH abZ 53=true:=by kernel_rfl
theorem Ir:qN abZ 53=48:=by kernel_rfl
theorem Iu:bT abZ 53=some [.slice none 0 0,.slice none 0 0]:=by kernel_rfl
theorem alp:lg abZ 53=true∧dI abZ 53 0=some (0,27)∧dI abZ 53 1=some (1,27):=by and_intros <;> kernel_rfl
theorem alq:aP abZ 57=6∧aT abZ 57=true∧dH abZ 57=true∧bT abZ 57=some [.int .i64 0,.int .i64 0,.int .i64 0,.slice none 0 0,.int .i64 0,.slice none 0 0]∧lg abZ 57=true∧dI abZ 57 0=some (0,3)∧dI abZ 57 3=some (3,37):=by and_intros <;> kernel_rfl
theorem alr:fC abZ 61=some 4:=by kernel_rfl
theorem als:aP abZ 65=1∧aT abZ 65=true∧dH abZ 65=false:=by and_intros <;> kernel_rfl
theorem aal:fC abZ 65=some 47:=by kernel_rfl
theorem alu:aP abZ 74=3∧aT abZ 74=true∧dH abZ 74=true∧bT abZ 74=some [.string aib,.slice none 0 0,.slice none 0 0]∧lg abZ 74=true∧dI abZ 74 0=some (0,9)∧dI abZ 74 1=some (1,28)∧dI abZ 74 2=some (2,27):=by and_intros <;> kernel_rfl
theorem wV:aP abZ 76=3:=by kernel_rfl
theorem Va:aT abZ 76=true:=by kernel_rfl
theorem afc:dH abZ 76=true:=by kernel_rfl
theorem afd:WZ abZ 76=some [0,0,1]:=by kernel_rfl
theorem EL:qN abZ 76=32:=by kernel_rfl
theorem AU:bT abZ 76=some [.int .i64 0,.int .i64 0,.string aib]:=by kernel_rfl
theorem afe:lg abZ 76=true:=by kernel_rfl
theorem XD:dI abZ 76 0=some (0,3):=by kernel_rfl
theorem XE:dI abZ 76 1=some (1,3):=by kernel_rfl
theorem XF:dI abZ 76 2=some (2,9):=by kernel_rfl
theorem alv:aP abZ 78=5∧aT abZ 78=true∧dH abZ 78=true∧bT abZ 78=some [.int .i64 0,.int .i64 0,.int .i64 0,.int .i64 0,.string aib]∧lg abZ 78=true∧dI abZ 78 0=some (0,3)∧dI abZ 78 1=some (1,3)∧dI abZ 78 2=some (2,76):=by and_intros <;> kernel_rfl
theorem alx:aP abZ 80=12∧aT abZ 80=true∧dH abZ 80=true∧bT abZ 80=some [.int .i64 0,.int .i64 0,.int .i64 0,.int .i64 0,.string aib,.int .i64 0,.int .i64 0,.int .i64 0,.int .i64 0,.int .i64 0,.string aib,.int .i64 0]∧lg abZ 80=true∧dI abZ 80 0=some (0,78)∧dI abZ 80 1=some (5,3)∧dI abZ 80 2=some (6,78)∧dI abZ 80 3=some (11,3):=by and_intros <;> kernel_rfl
theorem aly:aP abZ 81=1∧aT abZ 81=true∧dH abZ 81=false:=by and_intros <;> kernel_rfl
theorem alz:aP abZ 82=1∧aT abZ 82=true∧dH abZ 82=false:=by and_intros <;> kernel_rfl
theorem EM:fC abZ 82=some 9:=by kernel_rfl
theorem yO:aP abZ 84=6:=by kernel_rfl
theorem alA:aT abZ 84=true∧dH abZ 84=true∧lg abZ 84=true∧dI abZ 84 0=some (0,9)∧dI abZ 84 1=some (1,3)∧dI abZ 84 2=some (2,82)∧dI abZ 84 3=some (3,76):=by and_intros <;> kernel_rfl
theorem AV:qN abZ 84=80:=by kernel_rfl
theorem yP:bT abZ 84=some [.string aib,.int .i64 0,.slice none 0 0,.int .i64 0,.int .i64 0,.string aib]:=by kernel_rfl
theorem aff:aP abZ 95=1:=by kernel_rfl
theorem alB:aT abZ 95=true∧dH abZ 95=false:=by and_intros <;> kernel_rfl
theorem pO:oq abZ 95=some (9,.string,39):=by kernel_rfl
theorem afg:qN abZ 95=8:=by kernel_rfl
theorem afh:bT abZ 95=some [.map none]:=by kernel_rfl
theorem aiH:aP abZ 104=1∧aT abZ 104=true∧dH abZ 104=false:=by and_intros <;> kernel_rfl
theorem aiI:aP abZ 105=1∧aT abZ 105=true∧dH abZ 105=false∧bT abZ 105=some [.nilFunc]:=by and_intros <;> kernel_rfl
theorem aiJ:aP abZ 113=1∧aT abZ 113=true∧dH abZ 113=false∧bT abZ 113=some [.map none]:=by and_intros <;> kernel_rfl
theorem JD:oq abZ 113=some (3,.int .i64,4):=by kernel_rfl
theorem aiK:aP abZ 119=1∧aT abZ 119=true∧dH abZ 119=false:=by and_intros <;> kernel_rfl
theorem rM:oq abZ 119=some (3,.int .i64,173):=by kernel_rfl
theorem aiL:bT abZ 122=some [.slice none 0 0,.map none]∧lg abZ 122=true∧dI abZ 122 0=some (0,65)∧dI abZ 122 1=some (1,119):=by and_intros <;> kernel_rfl
theorem aiM:aP abZ 135=1∧aT abZ 135=true∧dH abZ 135=false:=by and_intros <;> kernel_rfl
theorem aco:fC abZ 135=some 95:=by kernel_rfl
theorem aiN:aP abZ 137=10∧aT abZ 137=true∧dH abZ 137=true∧bT abZ 137=some [.int .i64 0,.int .i64 0,.slice none 0 0,.slice none 0 0,.slice none 0 0,.int .i64 0,.int .i64 0,.slice none 0 0,.slice none 0 0,.slice none 0 0]∧lg abZ 137=true∧dI abZ 137 0=some (0,30)∧dI abZ 137 1=some (8,31)∧dI abZ 137 2=some (9,135):=by and_intros <;> kernel_rfl
theorem nP:oq abZ 139=some (3,.int .i64,138):=by kernel_rfl
theorem aiO:fC abZ 152=some 27:=by kernel_rfl
theorem Vb:aT abZ 162=true:=by kernel_rfl
theorem Vd:CB abZ 162=some .u64:=by kernel_rfl
theorem aiP:aP abZ 166=1∧aT abZ 166=true∧dH abZ 166=false:=by and_intros <;> kernel_rfl
theorem aiQ:bT abZ 169=some [.int .i64 0,.int .i64 0,.slice none 0 0,.slice none 0 0,.slice none 0 0,.int .i64 0,.int .i64 0,.slice none 0 0,.slice none 0 0]∧lg abZ 169=true∧dI abZ 169 0=some (0,30)∧dI abZ 169 1=some (8,24):=by and_intros <;> kernel_rfl
theorem aiR:aP abZ 170=1∧aT abZ 170=true∧dH abZ 170=false:=by and_intros <;> kernel_rfl
theorem aiS:aP abZ 173=4∧bT abZ 173=some [.int .i64 0,.nilFunc,.nilFunc,.nilFunc]∧lg abZ 173=true∧dI abZ 173 0=some (0,3)∧dI abZ 173 1=some (1,166)∧dI abZ 173 2=some (2,170)∧dI abZ 173 3=some (3,81):=by and_intros <;> kernel_rfl
theorem acp:zA abZ 173=some (.aj [.raw (.int .i64 0),.raw (.nilFunc),.raw (.nilFunc),.raw (.nilFunc)]):=by kernel_rfl
theorem aiT:aP abZ 190=1∧aT abZ 190=true∧dH abZ 190=false∧bT abZ 190=some [.nilFunc]:=by and_intros <;> kernel_rfl
theorem Dv:oq abZ 214=some (9,.string,47):=by kernel_rfl
theorem aiU:aP abZ 236=1∧aT abZ 236=true∧dH abZ 236=false∧bT abZ 236=some [.nilFunc]:=by and_intros <;> kernel_rfl
theorem OC:oq abZ 237=some (9,.string,3):=by kernel_rfl
theorem aiV:fC abZ 252=some 255:=by kernel_rfl
theorem aiW:aP abZ 255=2∧aT abZ 255=true∧dH abZ 255=true∧bT abZ 255=some [.int .i64 0,.nilFunc]∧lg abZ 255=true∧dI abZ 255 0=some (0,3)∧dI abZ 255 1=some (1,104):=by and_intros <;> kernel_rfl
theorem aiX:bT abZ 299=some [.int .u32 0,.int .i32 0,.int .u32 0,.nilIface,.slice none 0 0]∧lg abZ 299=true∧dI abZ 299 2=some (4,82):=by and_intros <;> kernel_rfl
theorem Ve:aP abZ 311=1:=by kernel_rfl
theorem aiY:aT abZ 311=true∧dH abZ 311=false:=by and_intros <;> kernel_rfl
theorem mW:fC abZ 311=some 5:=by kernel_rfl
theorem acr:bT abZ 313=some [.pointer none,.slice none 0 0]:=by kernel_rfl
theorem aiZ:fC abZ 320=some 32:=by kernel_rfl
theorem ai0:aP abZ 344=256:=by kernel_rfl
theorem ai1:dI abZ 346 0=some (0,344)∧dI abZ 346 1=some (256,82):=by and_intros <;> kernel_rfl
theorem mixed:abZ.follows .mixedOrders=true:=by kernel_rfl
end Go.Proofs.Z
