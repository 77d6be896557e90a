/- A part of the proof: Base. -/
import Derived.Test.YtjbhhddfaohdnaaGreatDoorPGd
import Derived.Test.YtjbhhddfaohdnaaGreatDoorPPw
import Derived.Test.YtjbhhddfaohdnaaGreatDoorPTy
import Derived.IntWalk
set_option linter.all false
set_option linter.deprecated false
namespace Go.Proofs.YtjbhhddfaohdnaaGreatDoor
open Go Go.Abs
abbrev I (n:Int):PD:=.raw (.int .i64 n)
abbrev B (b:Bool):PD:=.raw (.bool b)
abbrev ints (l:List Int):PD:=.list 1 (l.map I)
theorem w_ints (l:List Int):(ints l).width=1:=rfl
theorem w_I (n:Int):(I n).width=1:=rfl
theorem c_ints (l:List Int) (j:Nat):(ints l).cell j=ints l:=rfl
theorem c_I (n:Int) (j:Nat):(I n).cell j=I n:=rfl
theorem s_ints (l:List Int):(ints l).cells=[ints l]:=rfl
theorem s_I (n:Int):(I n).cells=[I n]:=rfl
theorem wrap64 {n:Int} (h1:-9223372036854775808≤n) (h2:n<9223372036854775808):IntKind.i64.wrap n=n:=IntWalk.i64_in n ⟨h1,by omega⟩
theorem wrapN {k:Nat} (h:k<9223372036854775807):IntKind.i64.wrap ((k:Int)+1)=((k+1:Nat):Int):=by
 rw [wrap64 (by omega) (by omega)]; rfl
theorem getD_map {α:Type} (f:α→PD) (l:List α) (i:Nat) (h:i<l.length) (d:PD):(l.map f).getD i d=f l[i]:=by
 simp [h]
theorem _root_.Go.Abs.R.bound {C:Cx} {k:List KI} {s:St} (t:Nat) {sz:Nat} {ds:List PD} (h:s.get t = .pd (.list sz ds)) (next:ds.length≤maxLen→R C k s):R C k s:=fun a w E g=>by
 have h1:=g.slots t
 rw [h] at h1
 refine next ?_ a w E g
 generalize a.tmps.getD t undef=v at h1
 cases h1 with
 | nil=>simp
 | empty=>simp
 | list _ _ b off cap vs hcap hmax=>omega
theorem drop_cons {α:Type} {l:List α} {k:Nat} (h:k<l.length):l.drop k=l[k]::l.drop (k+1):=List.drop_eq_getElem_cons h
theorem _root_.Go.Abs.R.callC {C:Cx} {all:Array Oper} {o:Oper} {l:List Oper} {k:List KI} {s:St} {f:FuncId} {xs:Array Operand} {ts:Array TypeId} {args:List SV} {rs:List PD} {b:Bool} (hf:FnC C.P f args rs) (ho:o.op = .call ⟨.value (.func f),xs,ts⟩) (hg:o.guard=none) (hc:CoL C.P s.var s.row (xs.toList.map (evO s)) args b)
  (hl:b=true→plain rs=true) (hd:dstP s o) (next:R C (.ops all l::k) (s.put o.dst (retSV rs))):R C (.ops all (o::l)::k) s:=R.y hg (dstP_ok hd) (.call f xs ts args rs b ho hc hf hl) next
theorem _root_.Go.Abs.RY.callC {C:Cx} {all:Array Oper} {tail:List Oper} {o:Oper} {l:List Oper} {k:List KI} {s:St} {f:FuncId} {xs:Array Operand} {ts:Array TypeId} {args:List SV} {rs:List PD} {b:Bool} (hf:FnC C.P f args rs) (ho:o.op = .call ⟨.value (.func f),xs,ts⟩) (hg:o.guard=none) (hc:CoL C.P s.var s.row (xs.toList.map (evO s)) args b)
  (hl:b=true→plain rs=true) (hd:dstP s o) (next:RY C all tail k l (s.put o.dst (retSV rs))):RY C all tail k (o::l) s:=⟨_,.inl ⟨hg,.call f xs ts args rs b ho hc hf hl⟩,dstP_ok hd,next⟩
theorem _root_.Go.Abs.R.callW {C:Cx} {all:Array Oper} {o:Oper} {l:List Oper} {k:List KI} {s:St} {f:FuncId} {xs:Array Operand} {ts:Array TypeId} {args:List SV} {rs:List PD} {b:Bool} (hdr:C.dr=false) (hf:FnW C.P f args rs) (ho:o.op = .call ⟨.value (.func f),xs,ts⟩) (hg:o.guard=none) (hc:CoL C.P s.var s.row (xs.toList.map (evO s)) args b)
  (hl:b=true→plain rs=true) (hd:dstP s o) (next:R C (.ops all l::k) (s.put o.dst (retSV rs))):R C (.ops all (o::l)::k) s:=R.y hg (dstP_ok hd) (.callW f xs ts args rs b hdr ho hc hf hl) next
theorem _root_.Go.Abs.RY.callW {C:Cx} {all:Array Oper} {tail:List Oper} {o:Oper} {l:List Oper} {k:List KI} {s:St} {f:FuncId} {xs:Array Operand} {ts:Array TypeId} {args:List SV} {rs:List PD} {b:Bool} (hdr:C.dr=false) (hf:FnW C.P f args rs) (ho:o.op = .call ⟨.value (.func f),xs,ts⟩) (hg:o.guard=none) (hc:CoL C.P s.var s.row (xs.toList.map (evO s)) args b)
  (hl:b=true→plain rs=true) (hd:dstP s o) (next:RY C all tail k l (s.put o.dst (retSV rs))):RY C all tail k (o::l) s:=⟨_,.inl ⟨hg,.callW f xs ts args rs b hdr ho hc hf hl⟩,dstP_ok hd,next⟩
theorem _root_.Go.Abs.R.callG {C:Cx} {all:Array Oper} {o:Oper} {l:List Oper} {k:List KI} {s:St} {f:FuncId} {xs:Array Operand} {ts:Array TypeId} {args:List SV} {rs:List PD} {b:Bool} {j t:Nat} {want c:Bool} (hg:o.guard=some (j,want)) (hj:(all[j]?).bind (·.dst)=some t) (hcc:s.get t = .pd (.raw (.bool c))) (ho:o.op = .call ⟨.value (.func f),xs,ts⟩)
  (h:(c == want)=true→gok (c == want) (o.op.operands.toList.map (evO s))∧CoL C.P s.var s.row (xs.toList.map (evG s)) args b∧FnC C.P f args rs) (hl:b=true→plain rs=true) (hd:dstP s o) (next:R C (.ops all l::k) (s.put o.dst (.gd (c == want) (retSV rs)))):R C (.ops all (o::l)::k) s:=
 R.yg hg hj hcc (dstP_ok hd) (fun hw=>⟨(h hw).1,.call f xs ts args rs b ho (h hw).2.1 (h hw).2.2 hl⟩) next
abbrev way (w:W):PD:=.tup [ints w.pos,ints w.neg]
abbrev ways (l:List W):PD:=.list 2 (l.map way)
attribute [go_sem] ev evL ev1 evY ay ayCall ayLen ayIdxAddr ayLoad ayField ayFieldAddr ayPick aySlice ayNil bound rawBin rawUn eqL eqV codeV ayBin refs idx gath caps partsD seqB wAll pdsOf fillD stV evO evG gok SV.strip SV.unbox SV.kill SV.killRow SV.frz er ty1 ty2 ty4 ty5 ty9 ty21 ty22 ty24 ty25 ty26 ty28 ty30 ty31 ty32 ty33 ty37 ty39 ty40 ty47 ty50 ty53 ty57 ty59 ty65 ty74 ty76 ty78 ty80 ty81 ty82 ty84 ty92 ty95 ty97 ty104 ty105 ty108 ty109 ty113 ty119 ty135 ty137 ty138 ty139 ty152 ty155 ty166 ty169 ty170 ty173 ty176 ty194 ty201 ty203 ty208 ty221 ty227 ty229 ty236 ty237 ty243 ty247 ty252 ty255 ty256 ty286 ty287 ty289 ty291 ty293 ty295 ty299 ty310 ty311 ty313 ty320 ty325 ty331 ty335 ty337 ty339 ty342 ty343 ty344 ty346 ty347 ty348 ty353 ty370 ty371 ty372 ty374 ty384 ty385
attribute [go_sem] constSV St.start St.startM slotsOf after AObj.wrote List.filter_nil St.get St.put St.set St.setVar St.setRow St.newVar St.newRow St.frz lk up St.var St.row dstP exitK cxP cxV cxR cwP cwV cwR cwM cmP cmV cmR cmW cmM caP caV caR caW caM cpP cpV
attribute [go_sem] cpR cgP cgV cgR cgW csP csV csR csW csM leR leM St.lp filtL St.enter renV renR renL SV.ren pickL shiftL upN St.leave lowL highL dropV dropR dnN St.leaveOk goodL goodC goodV goodR SV.good updN resS St.map or_self or_false false_or
attribute [go_sem] or_true true_or decide_true decide_false Bool.or_false Bool.or_true Bool.false_or Bool.true_or Bool.or_self resD leL leV leS srcOf wd_raw wd_list wd_tup wd_clo wd_mp ce_raw ce_list ce_tup ce_clo ce_mp cs_raw cs_list cs_tup cs_clo cs_mp w_ints w_I c_ints c_I s_ints s_I it_tup it_raw it_list retSV Op.operands
attribute [go_sem] Call.operands Nat.zero_add Nat.add_zero Nat.reduceAdd Nat.reduceSub Nat.reduceMul Nat.reduceEqDiff Nat.reduceLT Nat.reduceLeDiff Nat.reduceBEq Nat.reduceBNe reduceCtorEq if_true if_false ite_self Option.getD_some Option.getD_none Option.map_some Option.map_none Option.bind_some Option.isSome_some Option.isSome_none true_and and_true and_self true_implies false_implies ne_eq not_true_eq_false not_false_eq_true false_and and_false List.map_cons List.map_nil List.length_cons List.length_nil List.length_map List.take_succ_cons List.take_zero List.take_nil
attribute [go_sem] List.drop_succ_cons List.drop_zero List.drop_nil List.nil_append List.cons_append List.append_nil List.all_cons List.all_nil List.getD_cons_zero List.getD_cons_succ List.getElem?_toArray List.getElem?_cons_zero List.getElem?_cons_succ List.contains_nil List.contains_cons Array.isEmpty_empty List.range_succ_eq_map List.isEmpty_nil Value.oneCell' Bool.and_self Bool.and_true Bool.true_and Bool.false_and Bool.and_false Bool.not_true Bool.not_false beq_self_eq_true Bool.false_eq_true Bool.true_eq_false Int.toNat_natCast Array.size_empty List.size_toArray Function.comp implies_true Nat.not_lt_zero Nat.lt_irrefl Nat.le_refl Nat.lt_one_iff Int.natCast_nonneg Bool.not_not
attribute [go_sem] List.toList_toArray beq_true beq_false eq_self Array.empty_append imp_self Bool.not_eq_true' Bool.not_eq_false'
attribute [go_sem] ag162
attribute [go_sem] ag27
attribute [go_sem] ag3 ag33
attribute [go_sem] ag39 ag40
attribute [go_sem] ag53
attribute [go_sem] by162
attribute [go_sem] by27
attribute [go_sem] by3
attribute [go_sem] by33
attribute [go_sem] by37
attribute [go_sem] by53 by57
attribute [go_sem] by76 by84 by9 by95
attribute [go_sem] if162
attribute [go_sem] if27
attribute [go_sem] if3
attribute [go_sem] in162 in3 in5
attribute [go_sem] kn162
attribute [go_sem] kn27
attribute [go_sem] kn3
attribute [go_sem] kn33
attribute [go_sem] kn39
attribute [go_sem] kn40 kn53
attribute [go_sem] mixed mp113 mp119 mp139 mp237 mp95 sl135
attribute [go_sem] sl27 sl28 sl31 sl311 sl32 sl37 sl47 sl59 sl82 st9
attribute [go_sem] sz162
attribute [go_sem] sz27
attribute [go_sem] sz3
attribute [go_sem] sz311 sz33
attribute [go_sem] sz37 sz39
attribute [go_sem] sz40 sz5 sz53 sz57
attribute [go_sem] sz76 sz84 sz9 sz95 zd173 zd3 zd39 zd4
attribute [go_sem] ze162
attribute [go_sem] ze27
attribute [go_sem] ze3 ze313 ze33
attribute [go_sem] ze37
attribute [go_sem] ze53 ze57
attribute [go_sem] ze76 ze84 ze9 ze95
attribute [go_sem] Tryz.ntmps4 Tryz.ntmps6 Tryz.ntmps7 Tryz.ntmps10 Tryz.ntmps11 Tryz.ntmps12 Tryz.ntmps13 Tryz.ntmps16 Tryz.ntmps17 Tryz.ntmps20 Tryz.ntmps22 Tryz.ntmps23 Tryz.ntmps24 Tryz.ntmps25 Tryz.ntmps26 Tryz.ntmps30 Tryz.ntmps32 Tryz.ntmps33 Tryz.ntmps34 Tryz.ntmps35 Tryz.ntmps36 Tryz.ntmps37 Tryz.ntmps38 Tryz.ntmps39 Tryz.ntmps40 Tryz.ntmps41 Tryz.ntmps42
attribute [go_sem] Tryz.ntmps43 Tryz.ntmps44 Tryz.ntmps49 Tryz.ntmps50 Tryz.ntmps51 Tryz.ntmps52 Tryz.ntmps53 Tryz.ntmps54 Tryz.ntmps55 Tryz.ntmps56 Tryz.ntmps57 Tryz.ntmps58 Tryz.ntmps59 Tryz.ntmps60 Tryz.ntmps65 Tryz.ntmps66 Tryz.ntmps67 Tryz.ntmps68 Tryz.ntmps69 Tryz.ntmps73 Tryz.ntmps75 Tryz.ntmps77 Tryz.ntmps78 Tryz.ntmps79 Tryz.ntmps80 Tryz.ntmps81 Tryz.ntmps82
attribute [go_sem] Tryz.ntmps83 Tryz.ntmps84 Tryz.ntmps85 Tryz.ntmps86 Tryz.ntmps87 Tryz.ntmps88 Tryz.ntmps89 Tryz.ntmps90 Tryz.ntmps91 Tryz.ntmps103 Tryz.ntmps104 Tryz.ntmps105 Tryz.ntmps106 Tryz.ntmps107 Tryz.ntmps108 Tryz.ntmps109 Tryz.ntmps110 Tryz.ntmps111 Tryz.ntmps112 Tryz.ntmps113 Tryz.ntmps117 Tryz.ntmps118 Tryz.ntmps119 Tryz.ntmps121 Tryz.ntmps122
attribute [go_sem] Tryz.ntmps124 Tryz.ntmps125 Tryz.ntmps127 Tryz.ntmps129 Tryz.ntmps132 Tryz.ntmps134 Tryz.ntmps135 Tryz.ntmps137 Tryz.ntmps142 Tryz.ntmps143 Tryz.ntmps144 Tryz.ntmps145 Tryz.ntmps146 Tryz.ntmps147 Tryz.ntmps148 Tryz.ntmps149 Tryz.ntmps150 Tryz.ntmps151 Tryz.ntmps152 Tryz.ntmps153 Tryz.ntmps154 Tryz.ntmps155 Tryz.ntmps156 Tryz.ntmps157 Tryz.ntmps158
attribute [go_sem] Tryz.ntmps168 Tryz.ntmps169 Tryz.ntmps170 Tryz.ntmps171 Tryz.ntmps172 Tryz.ntmps173 Tryz.ntmps174 Tryz.ntmps175 Tryz.ntmps176 Tryz.ntmps177 Tryz.ntmps178 Tryz.ntmps179 Tryz.ntmps180 Tryz.ntmps181 Tryz.ntmps182 Tryz.ntmps183 Tryz.ntmps184 Tryz.ntmps187 Tryz.ntmps188 Tryz.ntmps189 Tryz.ntmps190 Tryz.ntmps191 Tryz.ntmps196 Tryz.ntmps197 Tryz.ntmps200
attribute [go_sem] Tryz.ntmps208 Tryz.ntmps209 Tryz.ntmps210 Tryz.ntmps211 Tryz.ntmps212 Tryz.ntmps213 Tryz.ntmps214 Tryz.ntmps215 Tryz.ntmps216 Tryz.ntmps217 Tryz.ntmps218 Tryz.ntmps219 Tryz.ntmps220 Tryz.ntmps221 Tryz.ntmps222 Tryz.ntmps223 Tryz.ntmps224 Tryz.ntmps225 Tryz.ntmps226 Tryz.ntmps227 Tryz.ntmps228 Tryz.ntmps229 Tryz.ntmps230 Tryz.ntmps240 Tryz.ntmps241 Tryz.ntmps242
attribute [go_sem] Tryz.ntmps243 Tryz.ntmps244 Tryz.ntmps245 Tryz.ntmps246 Tryz.ntmps247 Tryz.ntmps248 Tryz.ntmps249 Tryz.ntmps250 Tryz.ntmps251 Tryz.ntmps252 Tryz.ntmps253 Tryz.ntmps254 Tryz.ntmps255 Tryz.ntmps256 Tryz.ntmps257 Tryz.ntmps271 Tryz.ntmps272 Tryz.ntmps273 Tryz.ntmps274 Tryz.ntmps275 Tryz.ntmps276 Tryz.ntmps277 Tryz.ntmps278 Tryz.ntmps281 Tryz.ntmps282
attribute [go_sem] Tryz.ntmps283 Tryz.ntmps284 Tryz.ntmps285 Tryz.ntmps286 Tryz.ntmps287 Tryz.ntmps288 Tryz.ntmps289 Tryz.ntmps290 Tryz.ntmps291 Tryz.ntmps292 Tryz.ntmps293 Tryz.ntmps294 Tryz.ntmps295 Tryz.ntmps296 Tryz.ntmps297 Tryz.ntmps298 Tryz.ntmps302 Tryz.ntmps303 Tryz.ntmps304 Tryz.ntmps305 Tryz.ntmps306 Tryz.ntmps307 Tryz.ntmps308 Tryz.ntmps309 Tryz.ntmps310 Tryz.ntmps311 Tryz.ntmps312 Tryz.ntmps313 Tryz.ntmps314 Tryz.ntmps315 Tryz.ntmps316 Tryz.ntmps317 Tryz.ntmps318 Tryz.ntmps319 Tryz.ntmps321 Tryz.ntmps322
attribute [go_sem] Tryz.ntmps323 Tryz.ntmps325 Tryz.ntmps326 Tryz.ntmps327 Tryz.ntmps328 Tryz.ntmps329 Tryz.ntmps330 Tryz.ntmps332 Tryz.ntmps333 Tryz.ntmps334 Tryz.ntmps337 Tryz.ntmps338 Tryz.ntmps339 Tryz.ntmps340 Tryz.ntmps341 Tryz.ntmps343 Tryz.ntmps344 Tryz.ntmps349 Tryz.ntmps350 Tryz.ntmps351 Tryz.ntmps352 Tryz.ntmps361 Tryz.ntmps363 Tryz.ntmps364 Tryz.ntmps372 Tryz.ntmps392 Tryz.ntmps393
attribute [go_sem] Tryz.ntmps401 Tryz.ntmps403 Tryz.ntmps404 Tryz.ntmps406 Tryz.ntmps407 Tryz.ntmps408 Tryz.ntmps410 Tryz.ntmps411 Tryz.ntmps413
end Go.Proofs.YtjbhhddfaohdnaaGreatDoor
