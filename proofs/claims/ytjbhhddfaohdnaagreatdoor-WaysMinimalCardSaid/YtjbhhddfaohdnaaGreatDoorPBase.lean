/- A part of the proof: Base. -/
import Derived.Test.YtjbhhddfaohdnaaGreatDoorPGd
import Derived.Test.YtjbhhddfaohdnaaGreatDoorPPw
import Derived.Test.YtjbhhddfaohdnaaGreatDoorPTy
import Derived.IntWalk
set_option linter.all false
set_option linter.deprecated false
namespace Go.Proofs.YtjbhhddfaohdnaaGreatDoor
open Go Go.Abs
abbrev I (n:Int):PD:=.raw (.int .i64 n)
abbrev B (b:Bool):PD:=.raw (.bool b)
abbrev ints (l:List Int):PD:=.list 1 (l.map I)
theorem w_ints (l:List Int):(ints l).width = 1:=rfl
theorem w_I (n:Int):(I n).width = 1:=rfl
theorem c_ints (l:List Int) (j:Nat):(ints l).cell j = ints l:=rfl
theorem c_I (n:Int) (j:Nat):(I n).cell j = I n:=rfl
theorem s_ints (l:List Int):(ints l).cells = [ints l]:=rfl
theorem s_I (n:Int):(I n).cells = [I n]:=rfl
theorem wrap64 {n:Int} (h1:-9223372036854775808 ≤ n) (h2:n < 9223372036854775808):IntKind.i64.wrap n = n:=IntWalk.i64_in n ⟨h1,by omega⟩
theorem wrapN {k:Nat} (h:k < 9223372036854775807):IntKind.i64.wrap ((k:Int) + 1) = ((k + 1:Nat):Int):=by
 rw [wrap64 (by omega) (by omega)]; rfl
theorem getD_map {α:Type} (f:α→PD) (l:List α) (i:Nat) (h:i < l.length) (d:PD):(l.map f).getD i d = f l[i]:=by
 simp [h]
theorem _root_.Go.Abs.R.bound {C:Cx} {k:List KI} {s:St} (t:Nat) {sz:Nat} {ds:List PD} (h:s.get t = .pd (.list sz ds)) (next:ds.length ≤ maxLen→R C k s):R C k s:=fun a w E g=>by
 have h1:=g.slots t
 rw [h] at h1
 refine next ?_ a w E g
 generalize a.tmps.getD t undef = v at h1
 cases h1 with
 | nil=>simp
 | empty=>simp
 | list _ _ b off cap vs hcap hmax=>omega
theorem drop_cons {α:Type} {l:List α} {k:Nat} (h:k < l.length):l.drop k = l[k] :: l.drop (k + 1):=List.drop_eq_getElem_cons h
theorem _root_.Go.Abs.R.callC {C:Cx} {all:Array Oper} {o:Oper} {l:List Oper} {k:List KI} {s:St} {f:FuncId} {xs:Array Operand} {ts:Array TypeId} {args:List SV} {rs:List PD} {b:Bool} (hf:FnC C.P f args rs) (ho:o.op = .call ⟨.value (.func f),xs,ts⟩) (hg:o.guard = none) (hc:CoL C.P s.var s.row (xs.toList.map (evO s)) args b)
  (hl:b = true→plain rs = true) (hd:dstP s o) (next:R C (.ops all l :: k) (s.put o.dst (retSV rs))):R C (.ops all (o :: l) :: k) s:=R.y hg (dstP_ok hd) (.call f xs ts args rs b ho hc hf hl) next
theorem _root_.Go.Abs.RY.callC {C:Cx} {all:Array Oper} {tail:List Oper} {o:Oper} {l:List Oper} {k:List KI} {s:St} {f:FuncId} {xs:Array Operand} {ts:Array TypeId} {args:List SV} {rs:List PD} {b:Bool} (hf:FnC C.P f args rs) (ho:o.op = .call ⟨.value (.func f),xs,ts⟩) (hg:o.guard = none) (hc:CoL C.P s.var s.row (xs.toList.map (evO s)) args b)
  (hl:b = true→plain rs = true) (hd:dstP s o) (next:RY C all tail k l (s.put o.dst (retSV rs))):RY C all tail k (o :: l) s:=⟨_,.inl ⟨hg,.call f xs ts args rs b ho hc hf hl⟩,dstP_ok hd,next⟩
theorem _root_.Go.Abs.R.callW {C:Cx} {all:Array Oper} {o:Oper} {l:List Oper} {k:List KI} {s:St} {f:FuncId} {xs:Array Operand} {ts:Array TypeId} {args:List SV} {rs:List PD} {b:Bool} (hdr:C.dr = false) (hf:FnW C.P f args rs) (ho:o.op = .call ⟨.value (.func f),xs,ts⟩) (hg:o.guard = none) (hc:CoL C.P s.var s.row (xs.toList.map (evO s)) args b)
  (hl:b = true→plain rs = true) (hd:dstP s o) (next:R C (.ops all l :: k) (s.put o.dst (retSV rs))):R C (.ops all (o :: l) :: k) s:=R.y hg (dstP_ok hd) (.callW f xs ts args rs b hdr ho hc hf hl) next
theorem _root_.Go.Abs.RY.callW {C:Cx} {all:Array Oper} {tail:List Oper} {o:Oper} {l:List Oper} {k:List KI} {s:St} {f:FuncId} {xs:Array Operand} {ts:Array TypeId} {args:List SV} {rs:List PD} {b:Bool} (hdr:C.dr = false) (hf:FnW C.P f args rs) (ho:o.op = .call ⟨.value (.func f),xs,ts⟩) (hg:o.guard = none) (hc:CoL C.P s.var s.row (xs.toList.map (evO s)) args b)
  (hl:b = true→plain rs = true) (hd:dstP s o) (next:RY C all tail k l (s.put o.dst (retSV rs))):RY C all tail k (o :: l) s:=⟨_,.inl ⟨hg,.callW f xs ts args rs b hdr ho hc hf hl⟩,dstP_ok hd,next⟩
theorem _root_.Go.Abs.R.callG {C:Cx} {all:Array Oper} {o:Oper} {l:List Oper} {k:List KI} {s:St} {f:FuncId} {xs:Array Operand} {ts:Array TypeId} {args:List SV} {rs:List PD} {b:Bool} {j t:Nat} {want c:Bool} (hg:o.guard = some (j,want)) (hj:(all[j]?).bind (·.dst) = some t) (hcc:s.get t = .pd (.raw (.bool c))) (ho:o.op = .call ⟨.value (.func f),xs,ts⟩)
  (h:(c == want) = true→gok (c == want) (o.op.operands.toList.map (evO s))∧CoL C.P s.var s.row (xs.toList.map (evG s)) args b∧FnC C.P f args rs) (hl:b = true→plain rs = true) (hd:dstP s o) (next:R C (.ops all l :: k) (s.put o.dst (.gd (c == want) (retSV rs)))):R C (.ops all (o :: l) :: k) s:=
 R.yg hg hj hcc (dstP_ok hd) (fun hw=>⟨(h hw).1,.call f xs ts args rs b ho (h hw).2.1 (h hw).2.2 hl⟩) next
abbrev way (w:W):PD:=.tup [ints w.pos,ints w.neg]
abbrev ways (l:List W):PD:=.list 2 (l.map way)
attribute [go_sem] ev evL ev1 evY ay ayCall ayLen ayIdxAddr ayLoad ayField ayFieldAddr ayPick aySlice ayNil bound rawBin rawUn eqL eqV codeV ayBin refs idx gath caps partsD seqB wAll pdsOf fillD stV evO evG gok SV.strip SV.unbox SV.kill SV.killRow SV.frz er
attribute [go_sem] constSV St.start St.startM slotsOf after AObj.wrote List.filter_nil St.get St.put St.set St.setVar St.setRow St.newVar St.newRow St.frz lk up St.var St.row dstP exitK cxP cxV cxR cwP cwV cwR cwM cmP cmV cmR cmW cmM caP caV caR caW caM cpP cpV
attribute [go_sem] cpR cgP cgV cgR cgW csP csV csR csW csM leR leM St.lp filtL St.enter renV renR renL SV.ren pickL shiftL upN St.leave lowL highL dropV dropR dnN St.leaveOk goodL goodC goodV goodR SV.good updN resS St.map or_self or_false false_or
attribute [go_sem] or_true true_or decide_true decide_false Bool.or_false Bool.or_true Bool.false_or Bool.true_or Bool.or_self resD leL leV leS srcOf wd_raw wd_list wd_tup wd_clo wd_mp ce_raw ce_list ce_tup ce_clo ce_mp cs_raw cs_list cs_tup cs_clo cs_mp w_ints w_I c_ints c_I s_ints s_I it_tup it_raw it_list retSV Op.operands
attribute [go_sem] Call.operands Nat.zero_add Nat.add_zero Nat.reduceAdd Nat.reduceSub Nat.reduceMul Nat.reduceEqDiff Nat.reduceLT Nat.reduceLeDiff Nat.reduceBEq Nat.reduceBNe reduceCtorEq if_true if_false ite_self Option.getD_some Option.getD_none Option.map_some Option.map_none Option.bind_some Option.isSome_some Option.isSome_none true_and and_true and_self true_implies false_implies ne_eq not_true_eq_false not_false_eq_true false_and and_false List.map_cons List.map_nil List.length_cons List.length_nil List.length_map List.take_succ_cons List.take_zero List.take_nil
attribute [go_sem] List.drop_succ_cons List.drop_zero List.drop_nil List.nil_append List.cons_append List.append_nil List.all_cons List.all_nil List.getD_cons_zero List.getD_cons_succ List.getElem?_toArray List.getElem?_cons_zero List.getElem?_cons_succ List.contains_nil List.contains_cons Array.isEmpty_empty List.range_succ_eq_map List.isEmpty_nil Value.oneCell' Bool.and_self Bool.and_true Bool.true_and Bool.false_and Bool.and_false Bool.not_true Bool.not_false beq_self_eq_true Bool.false_eq_true Bool.true_eq_false Int.toNat_natCast Array.size_empty List.size_toArray Function.comp implies_true Nat.not_lt_zero Nat.lt_irrefl Nat.le_refl Nat.lt_one_iff Int.natCast_nonneg Bool.not_not
attribute [go_sem] List.toList_toArray beq_true beq_false eq_self Array.empty_append imp_self Bool.not_eq_true' Bool.not_eq_false'
attribute [go_sem] ag1 ag104 ag105 ag108 ag109 ag113 ag119 ag135
attribute [go_sem] ag137 ag138 ag139 ag152 ag155 ag162 ag166 ag169 ag170 ag173 ag176
attribute [go_sem] ag194 ag2 ag201 ag203 ag208 ag21
attribute [go_sem] ag22 ag221 ag227 ag229 ag236 ag237 ag24 ag243 ag247 ag25 ag252 ag255
attribute [go_sem] ag256 ag26 ag27 ag28 ag286 ag287 ag289 ag291
attribute [go_sem] ag293 ag295 ag299 ag3 ag30 ag31 ag310 ag311 ag313 ag32 ag320 ag325 ag33 ag331
attribute [go_sem] ag335 ag337 ag339 ag342 ag343 ag344 ag346 ag347 ag348 ag353 ag37
attribute [go_sem] ag370 ag371 ag372 ag374 ag384 ag385 ag39 ag4 ag40
attribute [go_sem] ag47 ag5 ag50 ag53 ag57 ag74 ag76 ag78 ag80 ag81 ag82 ag84
attribute [go_sem] ag9 ag92 ag95 ag97 bo4 by1 by104 by105 by108 by109 by113 by119
attribute [go_sem] by135 by137 by138 by139 by152 by155 by162 by166
attribute [go_sem] by169 by170 by173 by176 by194 by2 by201 by203
attribute [go_sem] by208 by21 by22 by221 by227 by229 by236 by237 by24 by243
attribute [go_sem] by247 by25 by252 by255 by256 by26 by27 by28
attribute [go_sem] by286 by287 by289 by291 by293 by295 by299 by3 by30 by31 by310 by311 by313 by32 by320
attribute [go_sem] by325 by33 by331 by335 by337 by339 by342 by343 by344 by346 by347 by348 by353
attribute [go_sem] by37 by370 by371 by372 by374 by384 by385 by39 by4 by40
attribute [go_sem] by47 by5 by50 by53 by57 by74
attribute [go_sem] by76 by78 by80 by81 by82 by84 by9 by92 by95 by97 eq76 fl137_0 fl137_1 fl137_2 fl169_0 fl169_1
attribute [go_sem] fl173_0 fl173_1 fl173_2 fl173_3 fl24_0 fl255_0 fl255_1 fl289_0 fl289_1 fl291_0 fl291_1 fl293_0 fl293_1 fl295_0 fl295_1 fl295_2 fl299_0 fl299_1 fl299_2
attribute [go_sem] fl30_0 fl30_1 fl30_2 fl30_3 fl30_4 fl30_5 fl30_6 fl30_7 fl313_0 fl313_1 fl346_0 fl346_1
attribute [go_sem] fl39_0 fl39_1 fl53_0 fl53_1 fl57_0 fl57_1 fl57_2 fl57_3 fl57_4 fl57_5 fl74_0 fl74_1 fl74_2
attribute [go_sem] fl76_0 fl76_1 fl76_2 fl78_0 fl78_1 fl78_2 fl80_0 fl80_1 fl80_2 fl80_3 fl84_0 fl84_1 fl84_2 fl84_3 fu137 fu169 fu173 fu24 fu255
attribute [go_sem] fu286 fu287 fu291 fu299 fu30 fu313 fu346 fu39 fu53 fu57 fu74 fu76 fu78 fu80 fu84 if1
attribute [go_sem] if104 if105 if108 if109 if113 if119 if135 if137 if138
attribute [go_sem] if139 if152 if155 if162 if166 if169 if170 if173 if176
attribute [go_sem] if194 if2 if201 if203 if208 if21 if22
attribute [go_sem] if221 if227 if229 if236 if237 if24 if243 if247 if25 if252 if255 if256
attribute [go_sem] if26 if27 if28 if286 if287 if289 if291 if293
attribute [go_sem] if295 if299 if3 if30 if31 if310 if311 if313 if32 if320 if325 if33 if331
attribute [go_sem] if335 if337 if339 if342 if343 if344 if346 if347 if348 if353 if37 if370 if371
attribute [go_sem] if372 if374 if384 if385 if39 if4 if40 if47
attribute [go_sem] if5 if50 if53 if57 if74 if76 if78 if80 if81 if82 if84 if9
attribute [go_sem] if92 if95 if97 in162 in194 in2 in201 in203 in21 in243 in3 in40 in5 kn1 kn104 kn105 kn108 kn109 kn113
attribute [go_sem] kn119 kn135 kn137 kn138 kn139 kn152 kn155
attribute [go_sem] kn162 kn166 kn169 kn170 kn173 kn176 kn194 kn2
attribute [go_sem] kn201 kn203 kn208 kn21 kn22 kn221 kn227 kn229 kn236 kn237
attribute [go_sem] kn24 kn243 kn247 kn25 kn252 kn255 kn256 kn26 kn27
attribute [go_sem] kn28 kn286 kn287 kn289 kn291 kn293 kn295 kn299 kn3 kn30 kn31 kn310 kn311
attribute [go_sem] kn313 kn32 kn320 kn325 kn33 kn331 kn335 kn337 kn339 kn342 kn343 kn344 kn346 kn347 kn348
attribute [go_sem] kn353 kn37 kn370 kn371 kn372 kn374 kn384 kn385 kn39
attribute [go_sem] kn4 kn40 kn47 kn5 kn50 kn53 kn57
attribute [go_sem] kn74 kn76 kn78 kn80 kn81 kn82 kn84 kn9 kn92 kn95 kn97 mixed mp113 mp119 mp139 mp237 mp95 sl135
attribute [go_sem] sl152 sl22 sl25 sl252 sl26 sl27 sl28 sl31 sl311 sl32 sl320 sl33 sl37 sl47 sl82 st9 sz1 sz104 sz105 sz108 sz109 sz113
attribute [go_sem] sz119 sz135 sz137 sz138 sz139 sz152 sz155
attribute [go_sem] sz162 sz166 sz169 sz170 sz173 sz176 sz194
attribute [go_sem] sz2 sz201 sz203 sz208 sz21 sz22 sz221 sz227 sz229 sz236
attribute [go_sem] sz237 sz24 sz243 sz247 sz25 sz252 sz255 sz256 sz26 sz27
attribute [go_sem] sz28 sz286 sz287 sz289 sz291 sz293 sz295 sz299 sz3 sz30 sz31 sz310
attribute [go_sem] sz311 sz313 sz32 sz320 sz325 sz33 sz331 sz335 sz337 sz339 sz342 sz343 sz344 sz346 sz347 sz348
attribute [go_sem] sz353 sz37 sz370 sz371 sz372 sz374 sz384 sz385 sz39
attribute [go_sem] sz4 sz40 sz47 sz5 sz50 sz53 sz57
attribute [go_sem] sz74 sz76 sz78 sz80 sz81 sz82 sz84 sz9 sz92 sz95 sz97 zd138 zd173 zd3 zd39 zd4 zd47 ze1
attribute [go_sem] ze104 ze105 ze108 ze109 ze113 ze119 ze135 ze137 ze138
attribute [go_sem] ze139 ze152 ze155 ze162 ze166 ze169 ze170 ze173 ze176
attribute [go_sem] ze194 ze2 ze201 ze203 ze208 ze21 ze22
attribute [go_sem] ze221 ze227 ze229 ze236 ze237 ze24 ze243 ze247 ze25 ze252 ze255 ze256
attribute [go_sem] ze26 ze27 ze28 ze286 ze287 ze289 ze291 ze293
attribute [go_sem] ze295 ze299 ze3 ze30 ze31 ze310 ze311 ze313 ze32 ze320 ze325 ze33 ze331
attribute [go_sem] ze335 ze337 ze339 ze343 ze347 ze348 ze353 ze37 ze370 ze372 ze374
attribute [go_sem] ze384 ze39 ze4 ze40 ze47 ze5 ze50 ze53 ze57
attribute [go_sem] ze74 ze76 ze78 ze80 ze81 ze82 ze84 ze9 ze92 ze95 ze97
attribute [go_sem] Tryz.ntmps5 Tryz.ntmps10 Tryz.ntmps12 Tryz.ntmps13 Tryz.ntmps16 Tryz.ntmps17 Tryz.ntmps20 Tryz.ntmps24 Tryz.ntmps30 Tryz.ntmps32 Tryz.ntmps33 Tryz.ntmps36 Tryz.ntmps37 Tryz.ntmps38 Tryz.ntmps39 Tryz.ntmps40 Tryz.ntmps41 Tryz.ntmps42
attribute [go_sem] Tryz.ntmps43 Tryz.ntmps44 Tryz.ntmps49 Tryz.ntmps50 Tryz.ntmps51 Tryz.ntmps52 Tryz.ntmps53 Tryz.ntmps54 Tryz.ntmps55 Tryz.ntmps56 Tryz.ntmps57 Tryz.ntmps58 Tryz.ntmps59 Tryz.ntmps60 Tryz.ntmps65 Tryz.ntmps66 Tryz.ntmps67 Tryz.ntmps73 Tryz.ntmps75 Tryz.ntmps77 Tryz.ntmps78 Tryz.ntmps81 Tryz.ntmps82
attribute [go_sem] Tryz.ntmps83 Tryz.ntmps84 Tryz.ntmps85 Tryz.ntmps86 Tryz.ntmps87 Tryz.ntmps88 Tryz.ntmps89 Tryz.ntmps90 Tryz.ntmps91 Tryz.ntmps103 Tryz.ntmps104 Tryz.ntmps105 Tryz.ntmps106 Tryz.ntmps107 Tryz.ntmps108 Tryz.ntmps109 Tryz.ntmps110 Tryz.ntmps111 Tryz.ntmps112 Tryz.ntmps113 Tryz.ntmps117 Tryz.ntmps118 Tryz.ntmps119 Tryz.ntmps121 Tryz.ntmps122
attribute [go_sem] Tryz.ntmps124 Tryz.ntmps125 Tryz.ntmps127 Tryz.ntmps129 Tryz.ntmps132 Tryz.ntmps134 Tryz.ntmps135 Tryz.ntmps137 Tryz.ntmps142 Tryz.ntmps143 Tryz.ntmps144 Tryz.ntmps145 Tryz.ntmps146 Tryz.ntmps147 Tryz.ntmps148 Tryz.ntmps149 Tryz.ntmps150 Tryz.ntmps151 Tryz.ntmps152 Tryz.ntmps153 Tryz.ntmps154 Tryz.ntmps155 Tryz.ntmps156 Tryz.ntmps157 Tryz.ntmps158
attribute [go_sem] Tryz.ntmps168 Tryz.ntmps169 Tryz.ntmps170 Tryz.ntmps171 Tryz.ntmps172 Tryz.ntmps173 Tryz.ntmps174 Tryz.ntmps175 Tryz.ntmps176 Tryz.ntmps177 Tryz.ntmps178 Tryz.ntmps179 Tryz.ntmps180 Tryz.ntmps181 Tryz.ntmps182 Tryz.ntmps183 Tryz.ntmps184 Tryz.ntmps187 Tryz.ntmps188 Tryz.ntmps189 Tryz.ntmps190 Tryz.ntmps191 Tryz.ntmps196 Tryz.ntmps197 Tryz.ntmps200
attribute [go_sem] Tryz.ntmps208 Tryz.ntmps209 Tryz.ntmps210 Tryz.ntmps211 Tryz.ntmps212 Tryz.ntmps213 Tryz.ntmps214 Tryz.ntmps215 Tryz.ntmps216 Tryz.ntmps217 Tryz.ntmps218 Tryz.ntmps219 Tryz.ntmps220 Tryz.ntmps221 Tryz.ntmps222 Tryz.ntmps223 Tryz.ntmps224 Tryz.ntmps225 Tryz.ntmps226 Tryz.ntmps227 Tryz.ntmps228 Tryz.ntmps229 Tryz.ntmps230 Tryz.ntmps240 Tryz.ntmps241 Tryz.ntmps242
attribute [go_sem] Tryz.ntmps243 Tryz.ntmps244 Tryz.ntmps245 Tryz.ntmps246 Tryz.ntmps247 Tryz.ntmps248 Tryz.ntmps249 Tryz.ntmps250 Tryz.ntmps251 Tryz.ntmps252 Tryz.ntmps253 Tryz.ntmps254 Tryz.ntmps255 Tryz.ntmps256 Tryz.ntmps257 Tryz.ntmps271 Tryz.ntmps272 Tryz.ntmps273 Tryz.ntmps274 Tryz.ntmps275 Tryz.ntmps276 Tryz.ntmps277 Tryz.ntmps278 Tryz.ntmps281 Tryz.ntmps282
attribute [go_sem] Tryz.ntmps283 Tryz.ntmps284 Tryz.ntmps285 Tryz.ntmps286 Tryz.ntmps287 Tryz.ntmps288 Tryz.ntmps289 Tryz.ntmps290 Tryz.ntmps291 Tryz.ntmps292 Tryz.ntmps293 Tryz.ntmps294 Tryz.ntmps295 Tryz.ntmps296 Tryz.ntmps297 Tryz.ntmps298 Tryz.ntmps302 Tryz.ntmps303 Tryz.ntmps304 Tryz.ntmps305 Tryz.ntmps306 Tryz.ntmps307 Tryz.ntmps308 Tryz.ntmps309 Tryz.ntmps310 Tryz.ntmps311 Tryz.ntmps312 Tryz.ntmps313 Tryz.ntmps314 Tryz.ntmps315 Tryz.ntmps316 Tryz.ntmps317 Tryz.ntmps318 Tryz.ntmps319 Tryz.ntmps321 Tryz.ntmps322
attribute [go_sem] Tryz.ntmps323 Tryz.ntmps325 Tryz.ntmps326 Tryz.ntmps327 Tryz.ntmps328 Tryz.ntmps329 Tryz.ntmps330 Tryz.ntmps332 Tryz.ntmps333 Tryz.ntmps334 Tryz.ntmps337 Tryz.ntmps338 Tryz.ntmps339 Tryz.ntmps340 Tryz.ntmps341 Tryz.ntmps343 Tryz.ntmps344 Tryz.ntmps349 Tryz.ntmps350 Tryz.ntmps351 Tryz.ntmps352 Tryz.ntmps361 Tryz.ntmps363 Tryz.ntmps364 Tryz.ntmps372 Tryz.ntmps392 Tryz.ntmps393
attribute [go_sem] Tryz.ntmps401 Tryz.ntmps403 Tryz.ntmps404 Tryz.ntmps406 Tryz.ntmps407 Tryz.ntmps408 Tryz.ntmps410 Tryz.ntmps411 Tryz.ntmps413
end Go.Proofs.YtjbhhddfaohdnaaGreatDoor
