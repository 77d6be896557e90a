/- A part of the proof: Ty. -/
import Derived.Test.YtjbhhddfaohdnaaGreatDoorPThD
import Derived.Test.YtjbhhddfaohdnaaGreatDoorProg
set_option linter.all false
set_option linter.deprecated false
namespace Go.Proofs.YtjbhhddfaohdnaaGreatDoor
open Go Go.Abs
set_option maxRecDepth 100000
theorem sz1:szT Tryz.prog 1 = 1:=by kernel_rfl
theorem kn1:knownT Tryz.prog 1 = true:=by kernel_rfl
theorem ag1:aggT Tryz.prog 1 = false:=by kernel_rfl
theorem if1:ifT Tryz.prog 1 = false:=by kernel_rfl
theorem by1:byT Tryz.prog 1 = 8:=by kernel_rfl
theorem ze1:zeroT Tryz.prog 1 = some [.nilFunc]:=by kernel_rfl
theorem sz2:szT Tryz.prog 2 = 1:=by kernel_rfl
theorem kn2:knownT Tryz.prog 2 = true:=by kernel_rfl
theorem ag2:aggT Tryz.prog 2 = false:=by kernel_rfl
theorem in2:intT Tryz.prog 2 = some .i64:=by kernel_rfl
theorem if2:ifT Tryz.prog 2 = false:=by kernel_rfl
theorem by2:byT Tryz.prog 2 = 8:=by kernel_rfl
theorem ze2:zeroT Tryz.prog 2 = some [.int .i64 0]:=by kernel_rfl
theorem sz3:szT Tryz.prog 3 = 1:=by kernel_rfl
theorem kn3:knownT Tryz.prog 3 = true:=by kernel_rfl
theorem ag3:aggT Tryz.prog 3 = false:=by kernel_rfl
theorem in3:intT Tryz.prog 3 = some .i64:=by kernel_rfl
theorem if3:ifT Tryz.prog 3 = false:=by kernel_rfl
theorem by3:byT Tryz.prog 3 = 8:=by kernel_rfl
theorem ze3:zeroT Tryz.prog 3 = some [.int .i64 0]:=by kernel_rfl
theorem zd3:zeroD Tryz.prog 3 = some (.raw (.int .i64 0)):=by kernel_rfl
theorem sz4:szT Tryz.prog 4 = 1:=by kernel_rfl
theorem kn4:knownT Tryz.prog 4 = true:=by kernel_rfl
theorem ag4:aggT Tryz.prog 4 = false:=by kernel_rfl
theorem bo4:boT Tryz.prog 4 = true:=by kernel_rfl
theorem if4:ifT Tryz.prog 4 = false:=by kernel_rfl
theorem by4:byT Tryz.prog 4 = 1:=by kernel_rfl
theorem ze4:zeroT Tryz.prog 4 = some [.bool false]:=by kernel_rfl
theorem zd4:zeroD Tryz.prog 4 = some (.raw (.bool false)):=by kernel_rfl
theorem sz5:szT Tryz.prog 5 = 1:=by kernel_rfl
theorem kn5:knownT Tryz.prog 5 = true:=by kernel_rfl
theorem ag5:aggT Tryz.prog 5 = false:=by kernel_rfl
theorem in5:intT Tryz.prog 5 = some .u8:=by kernel_rfl
theorem if5:ifT Tryz.prog 5 = false:=by kernel_rfl
theorem by5:byT Tryz.prog 5 = 1:=by kernel_rfl
theorem ze5:zeroT Tryz.prog 5 = some [.int .u8 0]:=by kernel_rfl
theorem sz9:szT Tryz.prog 9 = 1:=by kernel_rfl
theorem kn9:knownT Tryz.prog 9 = true:=by kernel_rfl
theorem ag9:aggT Tryz.prog 9 = false:=by kernel_rfl
theorem st9:strT Tryz.prog 9 = true:=by kernel_rfl
theorem if9:ifT Tryz.prog 9 = false:=by kernel_rfl
theorem by9:byT Tryz.prog 9 = 16:=by kernel_rfl
theorem ze9:zeroT Tryz.prog 9 = some [.string ByteArray.empty]:=by kernel_rfl
theorem sz21:szT Tryz.prog 21 = 1:=by kernel_rfl
theorem kn21:knownT Tryz.prog 21 = true:=by kernel_rfl
theorem ag21:aggT Tryz.prog 21 = false:=by kernel_rfl
theorem in21:intT Tryz.prog 21 = some .i32:=by kernel_rfl
theorem if21:ifT Tryz.prog 21 = false:=by kernel_rfl
theorem by21:byT Tryz.prog 21 = 4:=by kernel_rfl
theorem ze21:zeroT Tryz.prog 21 = some [.int .i32 0]:=by kernel_rfl
theorem sz22:szT Tryz.prog 22 = 1:=by kernel_rfl
theorem kn22:knownT Tryz.prog 22 = true:=by kernel_rfl
theorem ag22:aggT Tryz.prog 22 = false:=by kernel_rfl
theorem sl22:slT Tryz.prog 22 = some 74:=by kernel_rfl
theorem if22:ifT Tryz.prog 22 = false:=by kernel_rfl
theorem by22:byT Tryz.prog 22 = 24:=by kernel_rfl
theorem ze22:zeroT Tryz.prog 22 = some [.slice none 0 0]:=by kernel_rfl
theorem sz24:szT Tryz.prog 24 = 1:=by kernel_rfl
theorem kn24:knownT Tryz.prog 24 = true:=by kernel_rfl
theorem ag24:aggT Tryz.prog 24 = true:=by kernel_rfl
theorem if24:ifT Tryz.prog 24 = false:=by kernel_rfl
theorem by24:byT Tryz.prog 24 = 24:=by kernel_rfl
theorem ze24:zeroT Tryz.prog 24 = some [.slice none 0 0]:=by kernel_rfl
theorem fu24:fullT Tryz.prog 24 = true:=by kernel_rfl
theorem fl24_0:fldT Tryz.prog 24 0 = some (0,22):=by kernel_rfl
theorem sz25:szT Tryz.prog 25 = 1:=by kernel_rfl
theorem kn25:knownT Tryz.prog 25 = true:=by kernel_rfl
theorem ag25:aggT Tryz.prog 25 = false:=by kernel_rfl
theorem sl25:slT Tryz.prog 25 = some 30:=by kernel_rfl
theorem if25:ifT Tryz.prog 25 = false:=by kernel_rfl
theorem by25:byT Tryz.prog 25 = 24:=by kernel_rfl
theorem ze25:zeroT Tryz.prog 25 = some [.slice none 0 0]:=by kernel_rfl
theorem sz26:szT Tryz.prog 26 = 1:=by kernel_rfl
theorem kn26:knownT Tryz.prog 26 = true:=by kernel_rfl
theorem ag26:aggT Tryz.prog 26 = false:=by kernel_rfl
theorem sl26:slT Tryz.prog 26 = some 80:=by kernel_rfl
theorem if26:ifT Tryz.prog 26 = false:=by kernel_rfl
theorem by26:byT Tryz.prog 26 = 24:=by kernel_rfl
theorem ze26:zeroT Tryz.prog 26 = some [.slice none 0 0]:=by kernel_rfl
theorem sz27:szT Tryz.prog 27 = 1:=by kernel_rfl
theorem kn27:knownT Tryz.prog 27 = true:=by kernel_rfl
theorem ag27:aggT Tryz.prog 27 = false:=by kernel_rfl
theorem sl27:slT Tryz.prog 27 = some 3:=by kernel_rfl
theorem if27:ifT Tryz.prog 27 = false:=by kernel_rfl
theorem by27:byT Tryz.prog 27 = 24:=by kernel_rfl
theorem ze27:zeroT Tryz.prog 27 = some [.slice none 0 0]:=by kernel_rfl
theorem sz28:szT Tryz.prog 28 = 1:=by kernel_rfl
theorem kn28:knownT Tryz.prog 28 = true:=by kernel_rfl
theorem ag28:aggT Tryz.prog 28 = false:=by kernel_rfl
theorem sl28:slT Tryz.prog 28 = some 84:=by kernel_rfl
theorem if28:ifT Tryz.prog 28 = false:=by kernel_rfl
theorem by28:byT Tryz.prog 28 = 24:=by kernel_rfl
theorem ze28:zeroT Tryz.prog 28 = some [.slice none 0 0]:=by kernel_rfl
theorem sz30:szT Tryz.prog 30 = 8:=by kernel_rfl
theorem kn30:knownT Tryz.prog 30 = true:=by kernel_rfl
theorem ag30:aggT Tryz.prog 30 = true:=by kernel_rfl
theorem if30:ifT Tryz.prog 30 = false:=by kernel_rfl
theorem by30:byT Tryz.prog 30 = 128:=by kernel_rfl
theorem ze30:zeroT Tryz.prog 30 = some [.int .i64 0,.int .i64 0,.slice none 0 0,.slice none 0 0,.slice none 0 0,.int .i64 0,.int .i64 0,.slice none 0 0]:=by kernel_rfl
theorem fu30:fullT Tryz.prog 30 = true:=by kernel_rfl
theorem fl30_0:fldT Tryz.prog 30 0 = some (0,3):=by kernel_rfl
theorem fl30_1:fldT Tryz.prog 30 1 = some (1,3):=by kernel_rfl
theorem fl30_2:fldT Tryz.prog 30 2 = some (2,25):=by kernel_rfl
theorem fl30_3:fldT Tryz.prog 30 3 = some (3,26):=by kernel_rfl
theorem fl30_4:fldT Tryz.prog 30 4 = some (4,27):=by kernel_rfl
theorem fl30_5:fldT Tryz.prog 30 5 = some (5,3):=by kernel_rfl
theorem fl30_6:fldT Tryz.prog 30 6 = some (6,3):=by kernel_rfl
theorem fl30_7:fldT Tryz.prog 30 7 = some (7,28):=by kernel_rfl
theorem sz31:szT Tryz.prog 31 = 1:=by kernel_rfl
theorem kn31:knownT Tryz.prog 31 = true:=by kernel_rfl
theorem ag31:aggT Tryz.prog 31 = false:=by kernel_rfl
theorem sl31:slT Tryz.prog 31 = some 57:=by kernel_rfl
theorem if31:ifT Tryz.prog 31 = false:=by kernel_rfl
theorem by31:byT Tryz.prog 31 = 24:=by kernel_rfl
theorem ze31:zeroT Tryz.prog 31 = some [.slice none 0 0]:=by kernel_rfl
theorem sz32:szT Tryz.prog 32 = 1:=by kernel_rfl
theorem kn32:knownT Tryz.prog 32 = true:=by kernel_rfl
theorem ag32:aggT Tryz.prog 32 = false:=by kernel_rfl
theorem sl32:slT Tryz.prog 32 = some 53:=by kernel_rfl
theorem if32:ifT Tryz.prog 32 = false:=by kernel_rfl
theorem by32:byT Tryz.prog 32 = 24:=by kernel_rfl
theorem ze32:zeroT Tryz.prog 32 = some [.slice none 0 0]:=by kernel_rfl
theorem sz33:szT Tryz.prog 33 = 1:=by kernel_rfl
theorem kn33:knownT Tryz.prog 33 = true:=by kernel_rfl
theorem ag33:aggT Tryz.prog 33 = false:=by kernel_rfl
theorem sl33:slT Tryz.prog 33 = some 39:=by kernel_rfl
theorem if33:ifT Tryz.prog 33 = false:=by kernel_rfl
theorem by33:byT Tryz.prog 33 = 24:=by kernel_rfl
theorem ze33:zeroT Tryz.prog 33 = some [.slice none 0 0]:=by kernel_rfl
theorem sz37:szT Tryz.prog 37 = 1:=by kernel_rfl
theorem kn37:knownT Tryz.prog 37 = true:=by kernel_rfl
theorem ag37:aggT Tryz.prog 37 = false:=by kernel_rfl
theorem sl37:slT Tryz.prog 37 = some 76:=by kernel_rfl
theorem if37:ifT Tryz.prog 37 = false:=by kernel_rfl
theorem by37:byT Tryz.prog 37 = 24:=by kernel_rfl
theorem ze37:zeroT Tryz.prog 37 = some [.slice none 0 0]:=by kernel_rfl
theorem sz39:szT Tryz.prog 39 = 2:=by kernel_rfl
theorem kn39:knownT Tryz.prog 39 = true:=by kernel_rfl
theorem ag39:aggT Tryz.prog 39 = true:=by kernel_rfl
theorem if39:ifT Tryz.prog 39 = false:=by kernel_rfl
theorem by39:byT Tryz.prog 39 = 48:=by kernel_rfl
theorem ze39:zeroT Tryz.prog 39 = some [.slice none 0 0,.slice none 0 0]:=by kernel_rfl
theorem zd39:zeroD Tryz.prog 39 = some (.tup [.raw (.slice none 0 0),.raw (.slice none 0 0)]):=by kernel_rfl
theorem fu39:fullT Tryz.prog 39 = true:=by kernel_rfl
theorem fl39_0:fldT Tryz.prog 39 0 = some (0,37):=by kernel_rfl
theorem fl39_1:fldT Tryz.prog 39 1 = some (1,32):=by kernel_rfl
theorem sz40:szT Tryz.prog 40 = 1:=by kernel_rfl
theorem kn40:knownT Tryz.prog 40 = true:=by kernel_rfl
theorem ag40:aggT Tryz.prog 40 = false:=by kernel_rfl
theorem in40:intT Tryz.prog 40 = some .i64:=by kernel_rfl
theorem if40:ifT Tryz.prog 40 = false:=by kernel_rfl
theorem by40:byT Tryz.prog 40 = 8:=by kernel_rfl
theorem ze40:zeroT Tryz.prog 40 = some [.int .i64 0]:=by kernel_rfl
theorem sz47:szT Tryz.prog 47 = 1:=by kernel_rfl
theorem kn47:knownT Tryz.prog 47 = true:=by kernel_rfl
theorem ag47:aggT Tryz.prog 47 = false:=by kernel_rfl
theorem sl47:slT Tryz.prog 47 = some 37:=by kernel_rfl
theorem if47:ifT Tryz.prog 47 = false:=by kernel_rfl
theorem by47:byT Tryz.prog 47 = 24:=by kernel_rfl
theorem ze47:zeroT Tryz.prog 47 = some [.slice none 0 0]:=by kernel_rfl
theorem zd47:zeroD Tryz.prog 47 = some (.raw (.slice none 0 0)):=by kernel_rfl
theorem sz50:szT Tryz.prog 50 = 1:=by kernel_rfl
theorem kn50:knownT Tryz.prog 50 = true:=by kernel_rfl
theorem ag50:aggT Tryz.prog 50 = false:=by kernel_rfl
theorem if50:ifT Tryz.prog 50 = false:=by kernel_rfl
theorem by50:byT Tryz.prog 50 = 8:=by kernel_rfl
theorem ze50:zeroT Tryz.prog 50 = some [.nilFunc]:=by kernel_rfl
theorem sz53:szT Tryz.prog 53 = 2:=by kernel_rfl
theorem kn53:knownT Tryz.prog 53 = true:=by kernel_rfl
theorem ag53:aggT Tryz.prog 53 = true:=by kernel_rfl
theorem if53:ifT Tryz.prog 53 = false:=by kernel_rfl
theorem by53:byT Tryz.prog 53 = 48:=by kernel_rfl
theorem ze53:zeroT Tryz.prog 53 = some [.slice none 0 0,.slice none 0 0]:=by kernel_rfl
theorem fu53:fullT Tryz.prog 53 = true:=by kernel_rfl
theorem fl53_0:fldT Tryz.prog 53 0 = some (0,27):=by kernel_rfl
theorem fl53_1:fldT Tryz.prog 53 1 = some (1,27):=by kernel_rfl
theorem sz57:szT Tryz.prog 57 = 6:=by kernel_rfl
theorem kn57:knownT Tryz.prog 57 = true:=by kernel_rfl
theorem ag57:aggT Tryz.prog 57 = true:=by kernel_rfl
theorem if57:ifT Tryz.prog 57 = false:=by kernel_rfl
theorem by57:byT Tryz.prog 57 = 80:=by kernel_rfl
theorem ze57:zeroT Tryz.prog 57 = some [.int .i64 0,.int .i64 0,.int .i64 0,.slice none 0 0,.int .i64 0,.slice none 0 0]:=by kernel_rfl
theorem fu57:fullT Tryz.prog 57 = true:=by kernel_rfl
theorem fl57_0:fldT Tryz.prog 57 0 = some (0,3):=by kernel_rfl
theorem fl57_1:fldT Tryz.prog 57 1 = some (1,3):=by kernel_rfl
theorem fl57_2:fldT Tryz.prog 57 2 = some (2,3):=by kernel_rfl
theorem fl57_3:fldT Tryz.prog 57 3 = some (3,37):=by kernel_rfl
theorem fl57_4:fldT Tryz.prog 57 4 = some (4,3):=by kernel_rfl
theorem fl57_5:fldT Tryz.prog 57 5 = some (5,27):=by kernel_rfl
theorem sz74:szT Tryz.prog 74 = 3:=by kernel_rfl
theorem kn74:knownT Tryz.prog 74 = true:=by kernel_rfl
theorem ag74:aggT Tryz.prog 74 = true:=by kernel_rfl
theorem if74:ifT Tryz.prog 74 = false:=by kernel_rfl
theorem by74:byT Tryz.prog 74 = 64:=by kernel_rfl
theorem ze74:zeroT Tryz.prog 74 = some [.string ByteArray.empty,.slice none 0 0,.slice none 0 0]:=by kernel_rfl
theorem fu74:fullT Tryz.prog 74 = true:=by kernel_rfl
theorem fl74_0:fldT Tryz.prog 74 0 = some (0,9):=by kernel_rfl
theorem fl74_1:fldT Tryz.prog 74 1 = some (1,28):=by kernel_rfl
theorem fl74_2:fldT Tryz.prog 74 2 = some (2,27):=by kernel_rfl
theorem sz76:szT Tryz.prog 76 = 3:=by kernel_rfl
theorem kn76:knownT Tryz.prog 76 = true:=by kernel_rfl
theorem ag76:aggT Tryz.prog 76 = true:=by kernel_rfl
theorem eq76:eqT Tryz.prog 76 = some [0,0,1]:=by kernel_rfl
theorem if76:ifT Tryz.prog 76 = false:=by kernel_rfl
theorem by76:byT Tryz.prog 76 = 32:=by kernel_rfl
theorem ze76:zeroT Tryz.prog 76 = some [.int .i64 0,.int .i64 0,.string ByteArray.empty]:=by kernel_rfl
theorem fu76:fullT Tryz.prog 76 = true:=by kernel_rfl
theorem fl76_0:fldT Tryz.prog 76 0 = some (0,3):=by kernel_rfl
theorem fl76_1:fldT Tryz.prog 76 1 = some (1,3):=by kernel_rfl
theorem fl76_2:fldT Tryz.prog 76 2 = some (2,9):=by kernel_rfl
theorem sz78:szT Tryz.prog 78 = 5:=by kernel_rfl
theorem kn78:knownT Tryz.prog 78 = true:=by kernel_rfl
theorem ag78:aggT Tryz.prog 78 = true:=by kernel_rfl
theorem if78:ifT Tryz.prog 78 = false:=by kernel_rfl
theorem by78:byT Tryz.prog 78 = 48:=by kernel_rfl
theorem ze78:zeroT Tryz.prog 78 = some [.int .i64 0,.int .i64 0,.int .i64 0,.int .i64 0,.string ByteArray.empty]:=by kernel_rfl
theorem fu78:fullT Tryz.prog 78 = true:=by kernel_rfl
theorem fl78_0:fldT Tryz.prog 78 0 = some (0,3):=by kernel_rfl
theorem fl78_1:fldT Tryz.prog 78 1 = some (1,3):=by kernel_rfl
theorem fl78_2:fldT Tryz.prog 78 2 = some (2,76):=by kernel_rfl
theorem sz80:szT Tryz.prog 80 = 12:=by kernel_rfl
theorem kn80:knownT Tryz.prog 80 = true:=by kernel_rfl
theorem ag80:aggT Tryz.prog 80 = true:=by kernel_rfl
theorem if80:ifT Tryz.prog 80 = false:=by kernel_rfl
theorem by80:byT Tryz.prog 80 = 112:=by kernel_rfl
theorem ze80:zeroT Tryz.prog 80 = some [.int .i64 0,.int .i64 0,.int .i64 0,.int .i64 0,.string ByteArray.empty,.int .i64 0,.int .i64 0,.int .i64 0,.int .i64 0,.int .i64 0,.string ByteArray.empty,.int .i64 0]:=by kernel_rfl
theorem fu80:fullT Tryz.prog 80 = true:=by kernel_rfl
theorem fl80_0:fldT Tryz.prog 80 0 = some (0,78):=by kernel_rfl
theorem fl80_1:fldT Tryz.prog 80 1 = some (5,3):=by kernel_rfl
theorem fl80_2:fldT Tryz.prog 80 2 = some (6,78):=by kernel_rfl
theorem fl80_3:fldT Tryz.prog 80 3 = some (11,3):=by kernel_rfl
theorem sz81:szT Tryz.prog 81 = 1:=by kernel_rfl
theorem kn81:knownT Tryz.prog 81 = true:=by kernel_rfl
theorem ag81:aggT Tryz.prog 81 = false:=by kernel_rfl
theorem if81:ifT Tryz.prog 81 = false:=by kernel_rfl
theorem by81:byT Tryz.prog 81 = 8:=by kernel_rfl
theorem ze81:zeroT Tryz.prog 81 = some [.nilFunc]:=by kernel_rfl
theorem sz82:szT Tryz.prog 82 = 1:=by kernel_rfl
theorem kn82:knownT Tryz.prog 82 = true:=by kernel_rfl
theorem ag82:aggT Tryz.prog 82 = false:=by kernel_rfl
theorem sl82:slT Tryz.prog 82 = some 9:=by kernel_rfl
theorem if82:ifT Tryz.prog 82 = false:=by kernel_rfl
theorem by82:byT Tryz.prog 82 = 24:=by kernel_rfl
theorem ze82:zeroT Tryz.prog 82 = some [.slice none 0 0]:=by kernel_rfl
theorem sz84:szT Tryz.prog 84 = 6:=by kernel_rfl
theorem kn84:knownT Tryz.prog 84 = true:=by kernel_rfl
theorem ag84:aggT Tryz.prog 84 = true:=by kernel_rfl
theorem if84:ifT Tryz.prog 84 = false:=by kernel_rfl
theorem by84:byT Tryz.prog 84 = 80:=by kernel_rfl
theorem ze84:zeroT Tryz.prog 84 = some [.string ByteArray.empty,.int .i64 0,.slice none 0 0,.int .i64 0,.int .i64 0,.string ByteArray.empty]:=by kernel_rfl
theorem fu84:fullT Tryz.prog 84 = true:=by kernel_rfl
theorem fl84_0:fldT Tryz.prog 84 0 = some (0,9):=by kernel_rfl
theorem fl84_1:fldT Tryz.prog 84 1 = some (1,3):=by kernel_rfl
theorem fl84_2:fldT Tryz.prog 84 2 = some (2,82):=by kernel_rfl
theorem fl84_3:fldT Tryz.prog 84 3 = some (3,76):=by kernel_rfl
theorem sz92:szT Tryz.prog 92 = 1:=by kernel_rfl
theorem kn92:knownT Tryz.prog 92 = true:=by kernel_rfl
theorem ag92:aggT Tryz.prog 92 = false:=by kernel_rfl
theorem if92:ifT Tryz.prog 92 = false:=by kernel_rfl
theorem by92:byT Tryz.prog 92 = 8:=by kernel_rfl
theorem ze92:zeroT Tryz.prog 92 = some [.nilFunc]:=by kernel_rfl
theorem sz95:szT Tryz.prog 95 = 1:=by kernel_rfl
theorem kn95:knownT Tryz.prog 95 = true:=by kernel_rfl
theorem ag95:aggT Tryz.prog 95 = false:=by kernel_rfl
theorem mp95:mpT Tryz.prog 95 = some (9,.string,39):=by kernel_rfl
theorem if95:ifT Tryz.prog 95 = false:=by kernel_rfl
theorem by95:byT Tryz.prog 95 = 8:=by kernel_rfl
theorem ze95:zeroT Tryz.prog 95 = some [.map none]:=by kernel_rfl
theorem sz97:szT Tryz.prog 97 = 1:=by kernel_rfl
theorem kn97:knownT Tryz.prog 97 = true:=by kernel_rfl
theorem ag97:aggT Tryz.prog 97 = false:=by kernel_rfl
theorem if97:ifT Tryz.prog 97 = false:=by kernel_rfl
theorem by97:byT Tryz.prog 97 = 8:=by kernel_rfl
theorem ze97:zeroT Tryz.prog 97 = some [.nilFunc]:=by kernel_rfl
theorem sz104:szT Tryz.prog 104 = 1:=by kernel_rfl
theorem kn104:knownT Tryz.prog 104 = true:=by kernel_rfl
theorem ag104:aggT Tryz.prog 104 = false:=by kernel_rfl
theorem if104:ifT Tryz.prog 104 = false:=by kernel_rfl
theorem by104:byT Tryz.prog 104 = 8:=by kernel_rfl
theorem ze104:zeroT Tryz.prog 104 = some [.nilFunc]:=by kernel_rfl
theorem sz105:szT Tryz.prog 105 = 1:=by kernel_rfl
theorem kn105:knownT Tryz.prog 105 = true:=by kernel_rfl
theorem ag105:aggT Tryz.prog 105 = false:=by kernel_rfl
theorem if105:ifT Tryz.prog 105 = false:=by kernel_rfl
theorem by105:byT Tryz.prog 105 = 8:=by kernel_rfl
theorem ze105:zeroT Tryz.prog 105 = some [.nilFunc]:=by kernel_rfl
theorem sz108:szT Tryz.prog 108 = 1:=by kernel_rfl
theorem kn108:knownT Tryz.prog 108 = true:=by kernel_rfl
theorem ag108:aggT Tryz.prog 108 = false:=by kernel_rfl
theorem if108:ifT Tryz.prog 108 = false:=by kernel_rfl
theorem by108:byT Tryz.prog 108 = 8:=by kernel_rfl
theorem ze108:zeroT Tryz.prog 108 = some [.nilFunc]:=by kernel_rfl
theorem sz109:szT Tryz.prog 109 = 1:=by kernel_rfl
theorem kn109:knownT Tryz.prog 109 = true:=by kernel_rfl
theorem ag109:aggT Tryz.prog 109 = false:=by kernel_rfl
theorem if109:ifT Tryz.prog 109 = false:=by kernel_rfl
theorem by109:byT Tryz.prog 109 = 8:=by kernel_rfl
theorem ze109:zeroT Tryz.prog 109 = some [.nilFunc]:=by kernel_rfl
theorem sz113:szT Tryz.prog 113 = 1:=by kernel_rfl
theorem kn113:knownT Tryz.prog 113 = true:=by kernel_rfl
theorem ag113:aggT Tryz.prog 113 = false:=by kernel_rfl
theorem mp113:mpT Tryz.prog 113 = some (3,.int .i64,4):=by kernel_rfl
theorem if113:ifT Tryz.prog 113 = false:=by kernel_rfl
theorem by113:byT Tryz.prog 113 = 8:=by kernel_rfl
theorem ze113:zeroT Tryz.prog 113 = some [.map none]:=by kernel_rfl
theorem sz119:szT Tryz.prog 119 = 1:=by kernel_rfl
theorem kn119:knownT Tryz.prog 119 = true:=by kernel_rfl
theorem ag119:aggT Tryz.prog 119 = false:=by kernel_rfl
theorem mp119:mpT Tryz.prog 119 = some (3,.int .i64,173):=by kernel_rfl
theorem if119:ifT Tryz.prog 119 = false:=by kernel_rfl
theorem by119:byT Tryz.prog 119 = 8:=by kernel_rfl
theorem ze119:zeroT Tryz.prog 119 = some [.map none]:=by kernel_rfl
theorem sz135:szT Tryz.prog 135 = 1:=by kernel_rfl
theorem kn135:knownT Tryz.prog 135 = true:=by kernel_rfl
theorem ag135:aggT Tryz.prog 135 = false:=by kernel_rfl
theorem sl135:slT Tryz.prog 135 = some 95:=by kernel_rfl
theorem if135:ifT Tryz.prog 135 = false:=by kernel_rfl
theorem by135:byT Tryz.prog 135 = 24:=by kernel_rfl
theorem ze135:zeroT Tryz.prog 135 = some [.slice none 0 0]:=by kernel_rfl
theorem sz137:szT Tryz.prog 137 = 10:=by kernel_rfl
theorem kn137:knownT Tryz.prog 137 = true:=by kernel_rfl
theorem ag137:aggT Tryz.prog 137 = true:=by kernel_rfl
theorem if137:ifT Tryz.prog 137 = false:=by kernel_rfl
theorem by137:byT Tryz.prog 137 = 176:=by kernel_rfl
theorem ze137:zeroT Tryz.prog 137 = some [.int .i64 0,.int .i64 0,.slice none 0 0,.slice none 0 0,.slice none 0 0,.int .i64 0,.int .i64 0,.slice none 0 0,.slice none 0 0,.slice none 0 0]:=by kernel_rfl
theorem fu137:fullT Tryz.prog 137 = true:=by kernel_rfl
theorem fl137_0:fldT Tryz.prog 137 0 = some (0,30):=by kernel_rfl
theorem fl137_1:fldT Tryz.prog 137 1 = some (8,31):=by kernel_rfl
theorem fl137_2:fldT Tryz.prog 137 2 = some (9,135):=by kernel_rfl
theorem sz138:szT Tryz.prog 138 = 1:=by kernel_rfl
theorem kn138:knownT Tryz.prog 138 = true:=by kernel_rfl
theorem ag138:aggT Tryz.prog 138 = false:=by kernel_rfl
theorem if138:ifT Tryz.prog 138 = false:=by kernel_rfl
theorem by138:byT Tryz.prog 138 = 8:=by kernel_rfl
theorem ze138:zeroT Tryz.prog 138 = some [.nilFunc]:=by kernel_rfl
theorem zd138:zeroD Tryz.prog 138 = some (.raw (.nilFunc)):=by kernel_rfl
theorem sz139:szT Tryz.prog 139 = 1:=by kernel_rfl
theorem kn139:knownT Tryz.prog 139 = true:=by kernel_rfl
theorem ag139:aggT Tryz.prog 139 = false:=by kernel_rfl
theorem mp139:mpT Tryz.prog 139 = some (3,.int .i64,138):=by kernel_rfl
theorem if139:ifT Tryz.prog 139 = false:=by kernel_rfl
theorem by139:byT Tryz.prog 139 = 8:=by kernel_rfl
theorem ze139:zeroT Tryz.prog 139 = some [.map none]:=by kernel_rfl
theorem sz152:szT Tryz.prog 152 = 1:=by kernel_rfl
theorem kn152:knownT Tryz.prog 152 = true:=by kernel_rfl
theorem ag152:aggT Tryz.prog 152 = false:=by kernel_rfl
theorem sl152:slT Tryz.prog 152 = some 27:=by kernel_rfl
theorem if152:ifT Tryz.prog 152 = false:=by kernel_rfl
theorem by152:byT Tryz.prog 152 = 24:=by kernel_rfl
theorem ze152:zeroT Tryz.prog 152 = some [.slice none 0 0]:=by kernel_rfl
theorem sz155:szT Tryz.prog 155 = 1:=by kernel_rfl
theorem kn155:knownT Tryz.prog 155 = true:=by kernel_rfl
theorem ag155:aggT Tryz.prog 155 = false:=by kernel_rfl
theorem if155:ifT Tryz.prog 155 = false:=by kernel_rfl
theorem by155:byT Tryz.prog 155 = 8:=by kernel_rfl
theorem ze155:zeroT Tryz.prog 155 = some [.nilFunc]:=by kernel_rfl
theorem sz162:szT Tryz.prog 162 = 1:=by kernel_rfl
theorem kn162:knownT Tryz.prog 162 = true:=by kernel_rfl
theorem ag162:aggT Tryz.prog 162 = false:=by kernel_rfl
theorem in162:intT Tryz.prog 162 = some .u64:=by kernel_rfl
theorem if162:ifT Tryz.prog 162 = false:=by kernel_rfl
theorem by162:byT Tryz.prog 162 = 8:=by kernel_rfl
theorem ze162:zeroT Tryz.prog 162 = some [.int .u64 0]:=by kernel_rfl
theorem sz166:szT Tryz.prog 166 = 1:=by kernel_rfl
theorem kn166:knownT Tryz.prog 166 = true:=by kernel_rfl
theorem ag166:aggT Tryz.prog 166 = false:=by kernel_rfl
theorem if166:ifT Tryz.prog 166 = false:=by kernel_rfl
theorem by166:byT Tryz.prog 166 = 8:=by kernel_rfl
theorem ze166:zeroT Tryz.prog 166 = some [.nilFunc]:=by kernel_rfl
theorem sz169:szT Tryz.prog 169 = 9:=by kernel_rfl
theorem kn169:knownT Tryz.prog 169 = true:=by kernel_rfl
theorem ag169:aggT Tryz.prog 169 = true:=by kernel_rfl
theorem if169:ifT Tryz.prog 169 = false:=by kernel_rfl
theorem by169:byT Tryz.prog 169 = 152:=by kernel_rfl
theorem ze169:zeroT Tryz.prog 169 = some [.int .i64 0,.int .i64 0,.slice none 0 0,.slice none 0 0,.slice none 0 0,.int .i64 0,.int .i64 0,.slice none 0 0,.slice none 0 0]:=by kernel_rfl
theorem fu169:fullT Tryz.prog 169 = true:=by kernel_rfl
theorem fl169_0:fldT Tryz.prog 169 0 = some (0,30):=by kernel_rfl
theorem fl169_1:fldT Tryz.prog 169 1 = some (8,24):=by kernel_rfl
theorem sz170:szT Tryz.prog 170 = 1:=by kernel_rfl
theorem kn170:knownT Tryz.prog 170 = true:=by kernel_rfl
theorem ag170:aggT Tryz.prog 170 = false:=by kernel_rfl
theorem if170:ifT Tryz.prog 170 = false:=by kernel_rfl
theorem by170:byT Tryz.prog 170 = 8:=by kernel_rfl
theorem ze170:zeroT Tryz.prog 170 = some [.nilFunc]:=by kernel_rfl
theorem sz173:szT Tryz.prog 173 = 4:=by kernel_rfl
theorem kn173:knownT Tryz.prog 173 = true:=by kernel_rfl
theorem ag173:aggT Tryz.prog 173 = true:=by kernel_rfl
theorem if173:ifT Tryz.prog 173 = false:=by kernel_rfl
theorem by173:byT Tryz.prog 173 = 32:=by kernel_rfl
theorem ze173:zeroT Tryz.prog 173 = some [.int .i64 0,.nilFunc,.nilFunc,.nilFunc]:=by kernel_rfl
theorem zd173:zeroD Tryz.prog 173 = some (.tup [.raw (.int .i64 0),.raw (.nilFunc),.raw (.nilFunc),.raw (.nilFunc)]):=by kernel_rfl
theorem fu173:fullT Tryz.prog 173 = true:=by kernel_rfl
theorem fl173_0:fldT Tryz.prog 173 0 = some (0,3):=by kernel_rfl
theorem fl173_1:fldT Tryz.prog 173 1 = some (1,166):=by kernel_rfl
theorem fl173_2:fldT Tryz.prog 173 2 = some (2,170):=by kernel_rfl
theorem fl173_3:fldT Tryz.prog 173 3 = some (3,81):=by kernel_rfl
theorem sz176:szT Tryz.prog 176 = 1:=by kernel_rfl
theorem kn176:knownT Tryz.prog 176 = true:=by kernel_rfl
theorem ag176:aggT Tryz.prog 176 = false:=by kernel_rfl
theorem if176:ifT Tryz.prog 176 = false:=by kernel_rfl
theorem by176:byT Tryz.prog 176 = 8:=by kernel_rfl
theorem ze176:zeroT Tryz.prog 176 = some [.nilFunc]:=by kernel_rfl
theorem sz194:szT Tryz.prog 194 = 1:=by kernel_rfl
theorem kn194:knownT Tryz.prog 194 = true:=by kernel_rfl
theorem ag194:aggT Tryz.prog 194 = false:=by kernel_rfl
theorem in194:intT Tryz.prog 194 = some .i64:=by kernel_rfl
theorem if194:ifT Tryz.prog 194 = false:=by kernel_rfl
theorem by194:byT Tryz.prog 194 = 8:=by kernel_rfl
theorem ze194:zeroT Tryz.prog 194 = some [.int .i64 0]:=by kernel_rfl
theorem sz201:szT Tryz.prog 201 = 1:=by kernel_rfl
theorem kn201:knownT Tryz.prog 201 = true:=by kernel_rfl
theorem ag201:aggT Tryz.prog 201 = false:=by kernel_rfl
theorem in201:intT Tryz.prog 201 = some .u32:=by kernel_rfl
theorem if201:ifT Tryz.prog 201 = false:=by kernel_rfl
theorem by201:byT Tryz.prog 201 = 4:=by kernel_rfl
theorem ze201:zeroT Tryz.prog 201 = some [.int .u32 0]:=by kernel_rfl
theorem sz203:szT Tryz.prog 203 = 1:=by kernel_rfl
theorem kn203:knownT Tryz.prog 203 = true:=by kernel_rfl
theorem ag203:aggT Tryz.prog 203 = false:=by kernel_rfl
theorem in203:intT Tryz.prog 203 = some .u64:=by kernel_rfl
theorem if203:ifT Tryz.prog 203 = false:=by kernel_rfl
theorem by203:byT Tryz.prog 203 = 8:=by kernel_rfl
theorem ze203:zeroT Tryz.prog 203 = some [.int .u64 0]:=by kernel_rfl
theorem sz208:szT Tryz.prog 208 = 1:=by kernel_rfl
theorem kn208:knownT Tryz.prog 208 = true:=by kernel_rfl
theorem ag208:aggT Tryz.prog 208 = false:=by kernel_rfl
theorem if208:ifT Tryz.prog 208 = false:=by kernel_rfl
theorem by208:byT Tryz.prog 208 = 8:=by kernel_rfl
theorem ze208:zeroT Tryz.prog 208 = some [.nilFunc]:=by kernel_rfl
theorem sz221:szT Tryz.prog 221 = 1:=by kernel_rfl
theorem kn221:knownT Tryz.prog 221 = true:=by kernel_rfl
theorem ag221:aggT Tryz.prog 221 = false:=by kernel_rfl
theorem if221:ifT Tryz.prog 221 = false:=by kernel_rfl
theorem by221:byT Tryz.prog 221 = 8:=by kernel_rfl
theorem ze221:zeroT Tryz.prog 221 = some [.nilFunc]:=by kernel_rfl
theorem sz227:szT Tryz.prog 227 = 1:=by kernel_rfl
theorem kn227:knownT Tryz.prog 227 = true:=by kernel_rfl
theorem ag227:aggT Tryz.prog 227 = false:=by kernel_rfl
theorem if227:ifT Tryz.prog 227 = false:=by kernel_rfl
theorem by227:byT Tryz.prog 227 = 8:=by kernel_rfl
theorem ze227:zeroT Tryz.prog 227 = some [.nilFunc]:=by kernel_rfl
theorem sz229:szT Tryz.prog 229 = 1:=by kernel_rfl
theorem kn229:knownT Tryz.prog 229 = true:=by kernel_rfl
theorem ag229:aggT Tryz.prog 229 = false:=by kernel_rfl
theorem if229:ifT Tryz.prog 229 = false:=by kernel_rfl
theorem by229:byT Tryz.prog 229 = 8:=by kernel_rfl
theorem ze229:zeroT Tryz.prog 229 = some [.nilFunc]:=by kernel_rfl
theorem sz236:szT Tryz.prog 236 = 1:=by kernel_rfl
theorem kn236:knownT Tryz.prog 236 = true:=by kernel_rfl
theorem ag236:aggT Tryz.prog 236 = false:=by kernel_rfl
theorem if236:ifT Tryz.prog 236 = false:=by kernel_rfl
theorem by236:byT Tryz.prog 236 = 8:=by kernel_rfl
theorem ze236:zeroT Tryz.prog 236 = some [.nilFunc]:=by kernel_rfl
theorem sz237:szT Tryz.prog 237 = 1:=by kernel_rfl
theorem kn237:knownT Tryz.prog 237 = true:=by kernel_rfl
theorem ag237:aggT Tryz.prog 237 = false:=by kernel_rfl
theorem mp237:mpT Tryz.prog 237 = some (9,.string,3):=by kernel_rfl
theorem if237:ifT Tryz.prog 237 = false:=by kernel_rfl
theorem by237:byT Tryz.prog 237 = 8:=by kernel_rfl
theorem ze237:zeroT Tryz.prog 237 = some [.map none]:=by kernel_rfl
theorem sz243:szT Tryz.prog 243 = 1:=by kernel_rfl
theorem kn243:knownT Tryz.prog 243 = true:=by kernel_rfl
theorem ag243:aggT Tryz.prog 243 = false:=by kernel_rfl
theorem in243:intT Tryz.prog 243 = some .u64:=by kernel_rfl
theorem if243:ifT Tryz.prog 243 = false:=by kernel_rfl
theorem by243:byT Tryz.prog 243 = 8:=by kernel_rfl
theorem ze243:zeroT Tryz.prog 243 = some [.int .u64 0]:=by kernel_rfl
theorem sz247:szT Tryz.prog 247 = 1:=by kernel_rfl
theorem kn247:knownT Tryz.prog 247 = true:=by kernel_rfl
theorem ag247:aggT Tryz.prog 247 = false:=by kernel_rfl
theorem if247:ifT Tryz.prog 247 = false:=by kernel_rfl
theorem by247:byT Tryz.prog 247 = 8:=by kernel_rfl
theorem ze247:zeroT Tryz.prog 247 = some [.pointer none]:=by kernel_rfl
theorem sz252:szT Tryz.prog 252 = 1:=by kernel_rfl
theorem kn252:knownT Tryz.prog 252 = true:=by kernel_rfl
theorem ag252:aggT Tryz.prog 252 = false:=by kernel_rfl
theorem sl252:slT Tryz.prog 252 = some 255:=by kernel_rfl
theorem if252:ifT Tryz.prog 252 = false:=by kernel_rfl
theorem by252:byT Tryz.prog 252 = 24:=by kernel_rfl
theorem ze252:zeroT Tryz.prog 252 = some [.slice none 0 0]:=by kernel_rfl
theorem sz255:szT Tryz.prog 255 = 2:=by kernel_rfl
theorem kn255:knownT Tryz.prog 255 = true:=by kernel_rfl
theorem ag255:aggT Tryz.prog 255 = true:=by kernel_rfl
theorem if255:ifT Tryz.prog 255 = false:=by kernel_rfl
theorem by255:byT Tryz.prog 255 = 16:=by kernel_rfl
theorem ze255:zeroT Tryz.prog 255 = some [.int .i64 0,.nilFunc]:=by kernel_rfl
theorem fu255:fullT Tryz.prog 255 = true:=by kernel_rfl
theorem fl255_0:fldT Tryz.prog 255 0 = some (0,3):=by kernel_rfl
theorem fl255_1:fldT Tryz.prog 255 1 = some (1,104):=by kernel_rfl
theorem sz256:szT Tryz.prog 256 = 1:=by kernel_rfl
theorem kn256:knownT Tryz.prog 256 = true:=by kernel_rfl
theorem ag256:aggT Tryz.prog 256 = false:=by kernel_rfl
theorem if256:ifT Tryz.prog 256 = false:=by kernel_rfl
theorem by256:byT Tryz.prog 256 = 8:=by kernel_rfl
theorem ze256:zeroT Tryz.prog 256 = some [.pointer none]:=by kernel_rfl
theorem sz286:szT Tryz.prog 286 = 0:=by kernel_rfl
theorem kn286:knownT Tryz.prog 286 = true:=by kernel_rfl
theorem ag286:aggT Tryz.prog 286 = true:=by kernel_rfl
theorem if286:ifT Tryz.prog 286 = false:=by kernel_rfl
theorem by286:byT Tryz.prog 286 = 0:=by kernel_rfl
theorem ze286:zeroT Tryz.prog 286 = some []:=by kernel_rfl
theorem fu286:fullT Tryz.prog 286 = true:=by kernel_rfl
theorem sz287:szT Tryz.prog 287 = 0:=by kernel_rfl
theorem kn287:knownT Tryz.prog 287 = true:=by kernel_rfl
theorem ag287:aggT Tryz.prog 287 = true:=by kernel_rfl
theorem if287:ifT Tryz.prog 287 = false:=by kernel_rfl
theorem by287:byT Tryz.prog 287 = 0:=by kernel_rfl
theorem ze287:zeroT Tryz.prog 287 = some []:=by kernel_rfl
theorem fu287:fullT Tryz.prog 287 = true:=by kernel_rfl
theorem sz289:szT Tryz.prog 289 = 1:=by kernel_rfl
theorem kn289:knownT Tryz.prog 289 = true:=by kernel_rfl
theorem ag289:aggT Tryz.prog 289 = true:=by kernel_rfl
theorem if289:ifT Tryz.prog 289 = false:=by kernel_rfl
theorem by289:byT Tryz.prog 289 = 4:=by kernel_rfl
theorem ze289:zeroT Tryz.prog 289 = some [.int .u32 0]:=by kernel_rfl
theorem fl289_0:fldT Tryz.prog 289 0 = some (0,287):=by kernel_rfl
theorem fl289_1:fldT Tryz.prog 289 1 = some (0,201):=by kernel_rfl
theorem sz291:szT Tryz.prog 291 = 2:=by kernel_rfl
theorem kn291:knownT Tryz.prog 291 = true:=by kernel_rfl
theorem ag291:aggT Tryz.prog 291 = true:=by kernel_rfl
theorem if291:ifT Tryz.prog 291 = false:=by kernel_rfl
theorem by291:byT Tryz.prog 291 = 8:=by kernel_rfl
theorem ze291:zeroT Tryz.prog 291 = some [.int .i32 0,.int .u32 0]:=by kernel_rfl
theorem fu291:fullT Tryz.prog 291 = true:=by kernel_rfl
theorem fl291_0:fldT Tryz.prog 291 0 = some (0,21):=by kernel_rfl
theorem fl291_1:fldT Tryz.prog 291 1 = some (1,201):=by kernel_rfl
theorem sz293:szT Tryz.prog 293 = 2:=by kernel_rfl
theorem kn293:knownT Tryz.prog 293 = true:=by kernel_rfl
theorem ag293:aggT Tryz.prog 293 = true:=by kernel_rfl
theorem if293:ifT Tryz.prog 293 = false:=by kernel_rfl
theorem by293:byT Tryz.prog 293 = 8:=by kernel_rfl
theorem ze293:zeroT Tryz.prog 293 = some [.int .i32 0,.int .u32 0]:=by kernel_rfl
theorem fl293_0:fldT Tryz.prog 293 0 = some (0,286):=by kernel_rfl
theorem fl293_1:fldT Tryz.prog 293 1 = some (0,291):=by kernel_rfl
theorem sz295:szT Tryz.prog 295 = 3:=by kernel_rfl
theorem kn295:knownT Tryz.prog 295 = true:=by kernel_rfl
theorem ag295:aggT Tryz.prog 295 = true:=by kernel_rfl
theorem if295:ifT Tryz.prog 295 = false:=by kernel_rfl
theorem by295:byT Tryz.prog 295 = 12:=by kernel_rfl
theorem ze295:zeroT Tryz.prog 295 = some [.int .u32 0,.int .i32 0,.int .u32 0]:=by kernel_rfl
theorem fl295_0:fldT Tryz.prog 295 0 = some (0,286):=by kernel_rfl
theorem fl295_1:fldT Tryz.prog 295 1 = some (0,289):=by kernel_rfl
theorem fl295_2:fldT Tryz.prog 295 2 = some (1,293):=by kernel_rfl
theorem sz299:szT Tryz.prog 299 = 5:=by kernel_rfl
theorem kn299:knownT Tryz.prog 299 = true:=by kernel_rfl
theorem ag299:aggT Tryz.prog 299 = true:=by kernel_rfl
theorem if299:ifT Tryz.prog 299 = false:=by kernel_rfl
theorem by299:byT Tryz.prog 299 = 56:=by kernel_rfl
theorem ze299:zeroT Tryz.prog 299 = some [.int .u32 0,.int .i32 0,.int .u32 0,.nilIface,.slice none 0 0]:=by kernel_rfl
theorem fu299:fullT Tryz.prog 299 = true:=by kernel_rfl
theorem fl299_0:fldT Tryz.prog 299 0 = some (0,295):=by kernel_rfl
theorem fl299_1:fldT Tryz.prog 299 1 = some (3,297):=by kernel_rfl
theorem fl299_2:fldT Tryz.prog 299 2 = some (4,82):=by kernel_rfl
theorem sz310:szT Tryz.prog 310 = 1:=by kernel_rfl
theorem kn310:knownT Tryz.prog 310 = true:=by kernel_rfl
theorem ag310:aggT Tryz.prog 310 = false:=by kernel_rfl
theorem if310:ifT Tryz.prog 310 = false:=by kernel_rfl
theorem by310:byT Tryz.prog 310 = 8:=by kernel_rfl
theorem ze310:zeroT Tryz.prog 310 = some [.pointer none]:=by kernel_rfl
theorem sz311:szT Tryz.prog 311 = 1:=by kernel_rfl
theorem kn311:knownT Tryz.prog 311 = true:=by kernel_rfl
theorem ag311:aggT Tryz.prog 311 = false:=by kernel_rfl
theorem sl311:slT Tryz.prog 311 = some 5:=by kernel_rfl
theorem if311:ifT Tryz.prog 311 = false:=by kernel_rfl
theorem by311:byT Tryz.prog 311 = 24:=by kernel_rfl
theorem ze311:zeroT Tryz.prog 311 = some [.slice none 0 0]:=by kernel_rfl
theorem sz313:szT Tryz.prog 313 = 2:=by kernel_rfl
theorem kn313:knownT Tryz.prog 313 = true:=by kernel_rfl
theorem ag313:aggT Tryz.prog 313 = true:=by kernel_rfl
theorem if313:ifT Tryz.prog 313 = false:=by kernel_rfl
theorem by313:byT Tryz.prog 313 = 32:=by kernel_rfl
theorem ze313:zeroT Tryz.prog 313 = some [.pointer none,.slice none 0 0]:=by kernel_rfl
theorem fu313:fullT Tryz.prog 313 = true:=by kernel_rfl
theorem fl313_0:fldT Tryz.prog 313 0 = some (0,310):=by kernel_rfl
theorem fl313_1:fldT Tryz.prog 313 1 = some (1,311):=by kernel_rfl
theorem sz320:szT Tryz.prog 320 = 1:=by kernel_rfl
theorem kn320:knownT Tryz.prog 320 = true:=by kernel_rfl
theorem ag320:aggT Tryz.prog 320 = false:=by kernel_rfl
theorem sl320:slT Tryz.prog 320 = some 32:=by kernel_rfl
theorem if320:ifT Tryz.prog 320 = false:=by kernel_rfl
theorem by320:byT Tryz.prog 320 = 24:=by kernel_rfl
theorem ze320:zeroT Tryz.prog 320 = some [.slice none 0 0]:=by kernel_rfl
theorem sz325:szT Tryz.prog 325 = 1:=by kernel_rfl
theorem kn325:knownT Tryz.prog 325 = true:=by kernel_rfl
theorem ag325:aggT Tryz.prog 325 = false:=by kernel_rfl
theorem if325:ifT Tryz.prog 325 = false:=by kernel_rfl
theorem by325:byT Tryz.prog 325 = 8:=by kernel_rfl
theorem ze325:zeroT Tryz.prog 325 = some [.pointer none]:=by kernel_rfl
theorem sz331:szT Tryz.prog 331 = 1:=by kernel_rfl
theorem kn331:knownT Tryz.prog 331 = true:=by kernel_rfl
theorem ag331:aggT Tryz.prog 331 = false:=by kernel_rfl
theorem if331:ifT Tryz.prog 331 = false:=by kernel_rfl
theorem by331:byT Tryz.prog 331 = 8:=by kernel_rfl
theorem ze331:zeroT Tryz.prog 331 = some [.pointer none]:=by kernel_rfl
theorem sz335:szT Tryz.prog 335 = 1:=by kernel_rfl
theorem kn335:knownT Tryz.prog 335 = true:=by kernel_rfl
theorem ag335:aggT Tryz.prog 335 = false:=by kernel_rfl
theorem if335:ifT Tryz.prog 335 = false:=by kernel_rfl
theorem by335:byT Tryz.prog 335 = 8:=by kernel_rfl
theorem ze335:zeroT Tryz.prog 335 = some [.pointer none]:=by kernel_rfl
theorem sz337:szT Tryz.prog 337 = 1:=by kernel_rfl
theorem kn337:knownT Tryz.prog 337 = true:=by kernel_rfl
theorem ag337:aggT Tryz.prog 337 = false:=by kernel_rfl
theorem if337:ifT Tryz.prog 337 = false:=by kernel_rfl
theorem by337:byT Tryz.prog 337 = 8:=by kernel_rfl
theorem ze337:zeroT Tryz.prog 337 = some [.pointer none]:=by kernel_rfl
theorem sz339:szT Tryz.prog 339 = 1:=by kernel_rfl
theorem kn339:knownT Tryz.prog 339 = true:=by kernel_rfl
theorem ag339:aggT Tryz.prog 339 = false:=by kernel_rfl
theorem if339:ifT Tryz.prog 339 = false:=by kernel_rfl
theorem by339:byT Tryz.prog 339 = 8:=by kernel_rfl
theorem ze339:zeroT Tryz.prog 339 = some [.pointer none]:=by kernel_rfl
theorem sz342:szT Tryz.prog 342 = 256:=by kernel_rfl
theorem kn342:knownT Tryz.prog 342 = true:=by kernel_rfl
theorem ag342:aggT Tryz.prog 342 = true:=by kernel_rfl
theorem if342:ifT Tryz.prog 342 = false:=by kernel_rfl
theorem by342:byT Tryz.prog 342 = 256:=by kernel_rfl
theorem sz343:szT Tryz.prog 343 = 1:=by kernel_rfl
theorem kn343:knownT Tryz.prog 343 = true:=by kernel_rfl
theorem ag343:aggT Tryz.prog 343 = false:=by kernel_rfl
theorem if343:ifT Tryz.prog 343 = false:=by kernel_rfl
theorem by343:byT Tryz.prog 343 = 8:=by kernel_rfl
theorem ze343:zeroT Tryz.prog 343 = some [.pointer none]:=by kernel_rfl
theorem sz344:szT Tryz.prog 344 = 256:=by kernel_rfl
theorem kn344:knownT Tryz.prog 344 = true:=by kernel_rfl
theorem ag344:aggT Tryz.prog 344 = true:=by kernel_rfl
theorem if344:ifT Tryz.prog 344 = false:=by kernel_rfl
theorem by344:byT Tryz.prog 344 = 6144:=by kernel_rfl
theorem sz346:szT Tryz.prog 346 = 257:=by kernel_rfl
theorem kn346:knownT Tryz.prog 346 = true:=by kernel_rfl
theorem ag346:aggT Tryz.prog 346 = true:=by kernel_rfl
theorem if346:ifT Tryz.prog 346 = false:=by kernel_rfl
theorem by346:byT Tryz.prog 346 = 6168:=by kernel_rfl
theorem fu346:fullT Tryz.prog 346 = true:=by kernel_rfl
theorem fl346_0:fldT Tryz.prog 346 0 = some (0,344):=by kernel_rfl
theorem fl346_1:fldT Tryz.prog 346 1 = some (256,82):=by kernel_rfl
theorem sz347:szT Tryz.prog 347 = 1:=by kernel_rfl
theorem kn347:knownT Tryz.prog 347 = true:=by kernel_rfl
theorem ag347:aggT Tryz.prog 347 = false:=by kernel_rfl
theorem if347:ifT Tryz.prog 347 = false:=by kernel_rfl
theorem by347:byT Tryz.prog 347 = 8:=by kernel_rfl
theorem ze347:zeroT Tryz.prog 347 = some [.pointer none]:=by kernel_rfl
theorem sz348:szT Tryz.prog 348 = 24:=by kernel_rfl
theorem kn348:knownT Tryz.prog 348 = true:=by kernel_rfl
theorem ag348:aggT Tryz.prog 348 = true:=by kernel_rfl
theorem if348:ifT Tryz.prog 348 = false:=by kernel_rfl
theorem by348:byT Tryz.prog 348 = 24:=by kernel_rfl
theorem ze348:zeroT Tryz.prog 348 = some [.int .u8 0,.int .u8 0,.int .u8 0,.int .u8 0,.int .u8 0,.int .u8 0,.int .u8 0,.int .u8 0,.int .u8 0,.int .u8 0,.int .u8 0,.int .u8 0,.int .u8 0,.int .u8 0,.int .u8 0,.int .u8 0,.int .u8 0,.int .u8 0,.int .u8 0,.int .u8 0,.int .u8 0,.int .u8 0,.int .u8 0,.int .u8 0]:=by kernel_rfl
theorem sz353:szT Tryz.prog 353 = 1:=by kernel_rfl
theorem kn353:knownT Tryz.prog 353 = true:=by kernel_rfl
theorem ag353:aggT Tryz.prog 353 = false:=by kernel_rfl
theorem if353:ifT Tryz.prog 353 = false:=by kernel_rfl
theorem by353:byT Tryz.prog 353 = 8:=by kernel_rfl
theorem ze353:zeroT Tryz.prog 353 = some [.pointer none]:=by kernel_rfl
theorem sz370:szT Tryz.prog 370 = 20:=by kernel_rfl
theorem kn370:knownT Tryz.prog 370 = true:=by kernel_rfl
theorem ag370:aggT Tryz.prog 370 = true:=by kernel_rfl
theorem if370:ifT Tryz.prog 370 = false:=by kernel_rfl
theorem by370:byT Tryz.prog 370 = 160:=by kernel_rfl
theorem ze370:zeroT Tryz.prog 370 = some [.int .u64 0,.int .u64 0,.int .u64 0,.int .u64 0,.int .u64 0,.int .u64 0,.int .u64 0,.int .u64 0,.int .u64 0,.int .u64 0,.int .u64 0,.int .u64 0,.int .u64 0,.int .u64 0,.int .u64 0,.int .u64 0,.int .u64 0,.int .u64 0,.int .u64 0,.int .u64 0]:=by kernel_rfl
theorem sz371:szT Tryz.prog 371 = 65:=by kernel_rfl
theorem kn371:knownT Tryz.prog 371 = true:=by kernel_rfl
theorem ag371:aggT Tryz.prog 371 = true:=by kernel_rfl
theorem if371:ifT Tryz.prog 371 = false:=by kernel_rfl
theorem by371:byT Tryz.prog 371 = 65:=by kernel_rfl
theorem sz372:szT Tryz.prog 372 = 1:=by kernel_rfl
theorem kn372:knownT Tryz.prog 372 = true:=by kernel_rfl
theorem ag372:aggT Tryz.prog 372 = false:=by kernel_rfl
theorem if372:ifT Tryz.prog 372 = false:=by kernel_rfl
theorem by372:byT Tryz.prog 372 = 8:=by kernel_rfl
theorem ze372:zeroT Tryz.prog 372 = some [.pointer none]:=by kernel_rfl
theorem sz374:szT Tryz.prog 374 = 1:=by kernel_rfl
theorem kn374:knownT Tryz.prog 374 = true:=by kernel_rfl
theorem ag374:aggT Tryz.prog 374 = false:=by kernel_rfl
theorem if374:ifT Tryz.prog 374 = false:=by kernel_rfl
theorem by374:byT Tryz.prog 374 = 8:=by kernel_rfl
theorem ze374:zeroT Tryz.prog 374 = some [.pointer none]:=by kernel_rfl
theorem sz384:szT Tryz.prog 384 = 32:=by kernel_rfl
theorem kn384:knownT Tryz.prog 384 = true:=by kernel_rfl
theorem ag384:aggT Tryz.prog 384 = true:=by kernel_rfl
theorem if384:ifT Tryz.prog 384 = false:=by kernel_rfl
theorem by384:byT Tryz.prog 384 = 32:=by kernel_rfl
theorem ze384:zeroT Tryz.prog 384 = some [.int .u8 0,.int .u8 0,.int .u8 0,.int .u8 0,.int .u8 0,.int .u8 0,.int .u8 0,.int .u8 0,.int .u8 0,.int .u8 0,.int .u8 0,.int .u8 0,.int .u8 0,.int .u8 0,.int .u8 0,.int .u8 0,.int .u8 0,.int .u8 0,.int .u8 0,.int .u8 0,.int .u8 0,.int .u8 0,.int .u8 0,.int .u8 0,.int .u8 0,.int .u8 0,.int .u8 0,.int .u8 0,.int .u8 0,.int .u8 0,.int .u8 0,.int .u8 0]:=by kernel_rfl
theorem sz385:szT Tryz.prog 385 = 64:=by kernel_rfl
theorem kn385:knownT Tryz.prog 385 = true:=by kernel_rfl
theorem ag385:aggT Tryz.prog 385 = true:=by kernel_rfl
theorem if385:ifT Tryz.prog 385 = false:=by kernel_rfl
theorem by385:byT Tryz.prog 385 = 64:=by kernel_rfl
theorem mixed:Tryz.prog.follows .mixedOrders = true:=by kernel_rfl
end Go.Proofs.YtjbhhddfaohdnaaGreatDoor
