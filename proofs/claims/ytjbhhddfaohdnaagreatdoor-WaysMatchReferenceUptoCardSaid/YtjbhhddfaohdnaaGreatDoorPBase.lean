/- A part of the proof. -/
import Derived.Test.YtjbhhddfaohdnaaGreatDoorPPw
import Derived.Test.YtjbhhddfaohdnaaGreatDoorPTy
import Derived.IntWalk
set_option linter.all false
set_option linter.deprecated false
namespace Go.Proofs.Z
open Go Go.au
abbrev I (n:Int):PD:=.raw (.int .i64 n)
abbrev B (b:Bool):PD:=.raw (.bool b)
abbrev ints (l:List Int):PD:=.list 1 (l.map I)
theorem OE (l:List Int):(ints l).width=1:=rfl
theorem w_I (n:Int):(I n).width=1:=rfl
theorem Xa (l:List Int) (j:Nat):(ints l).cell j=ints l:=rfl
theorem c_I (n:Int) (j:Nat):(I n).cell j=I n:=rfl
theorem Xb (l:List Int):(ints l).cells=[ints l]:=rfl
theorem s_I (n:Int):(I n).cells=[I n]:=rfl
theorem wrap64 {n:Int} (h1:-9223372036854775808≤n) (h2:n<9223372036854775808):IntKind.i64.wrap n=n:=IntWalk.i64_in n ⟨h1,by omega⟩
theorem wrapN {k:Nat} (h:k<9223372036854775807):IntKind.i64.wrap ((k:Int)+1)=((k+1:Nat):Int):=by
 rw [wrap64 (by omega) (by omega)]; rfl
theorem getD_map {α:Type} (f:α→PD) (l:List α) (i:Nat) (h:i<l.length) (d:PD):(l.map f).getD i d=f l[i]:=by
 simp [h]
theorem _root_.Go.au.R.bound {C:Cx} {k:List KI} {s:St} (t:Nat) {sz:Nat} {ds:List PD} (h:s.get t = .pd (.list sz ds)) (next:ds.length≤maxLen→R C k s):R C k s:=fun a w E g=>by
 have h1:=g.slots t
 rw [h] at h1
 refine next ?_ a w E g
 generalize a.tmps.getD t undef=v at h1
 cases h1 with
 | nil=>simp
 | empty=>simp
 | list _ _ b off cap vs hcap hmax=>omega
theorem drop_cons {α:Type} {l:List α} {k:Nat} (h:k<l.length):l.drop k=l[k]::l.drop (k+1):=aol h
theorem _root_.Go.au.R.jr {C:Cx} {all:Array Oper} {o:Oper} {l:List Oper} {k:List KI} {s:St} {f:FuncId} {xs:Array Operand} {ts:Array TypeId} {args:List SV} {rs:List PD} {b:Bool} (hf:aA C.P f args rs) (ho:o.op = .call ⟨.value (.func f),xs,ts⟩) (hg:o.guard=none) (hc:jl C.P s.var s.row (xs.toList.map (aW s)) args b)
  (hl:b=true→plain rs=true) (hd:fQ s o) (next:R C (.ops all l::k) (s.put o.dst (dN rs))):R C (.ops all (o::l)::k) s:=R.y hg (aj hd) (.call f xs ts args rs b ho hc hf hl) next
theorem _root_.Go.au.RY.jr {C:Cx} {all:Array Oper} {tail:List Oper} {o:Oper} {l:List Oper} {k:List KI} {s:St} {f:FuncId} {xs:Array Operand} {ts:Array TypeId} {args:List SV} {rs:List PD} {b:Bool} (hf:aA C.P f args rs) (ho:o.op = .call ⟨.value (.func f),xs,ts⟩) (hg:o.guard=none) (hc:jl C.P s.var s.row (xs.toList.map (aW s)) args b)
  (hl:b=true→plain rs=true) (hd:fQ s o) (next:RY C all tail k l (s.put o.dst (dN rs))):RY C all tail k (o::l) s:=⟨_,.inl ⟨hg,.call f xs ts args rs b ho hc hf hl⟩,aj hd,next⟩
theorem _root_.Go.au.R.rX {C:Cx} {all:Array Oper} {o:Oper} {l:List Oper} {k:List KI} {s:St} {f:FuncId} {xs:Array Operand} {ts:Array TypeId} {args:List SV} {rs:List PD} {b:Bool} (hdr:C.dr=false) (hf:aQ C.P f args rs) (ho:o.op = .call ⟨.value (.func f),xs,ts⟩) (hg:o.guard=none) (hc:jl C.P s.var s.row (xs.toList.map (aW s)) args b)
  (hl:b=true→plain rs=true) (hd:fQ s o) (next:R C (.ops all l::k) (s.put o.dst (dN rs))):R C (.ops all (o::l)::k) s:=R.y hg (aj hd) (.rX f xs ts args rs b hdr ho hc hf hl) next
theorem _root_.Go.au.RY.rX {C:Cx} {all:Array Oper} {tail:List Oper} {o:Oper} {l:List Oper} {k:List KI} {s:St} {f:FuncId} {xs:Array Operand} {ts:Array TypeId} {args:List SV} {rs:List PD} {b:Bool} (hdr:C.dr=false) (hf:aQ C.P f args rs) (ho:o.op = .call ⟨.value (.func f),xs,ts⟩) (hg:o.guard=none) (hc:jl C.P s.var s.row (xs.toList.map (aW s)) args b)
  (hl:b=true→plain rs=true) (hd:fQ s o) (next:RY C all tail k l (s.put o.dst (dN rs))):RY C all tail k (o::l) s:=⟨_,.inl ⟨hg,.rX f xs ts args rs b hdr ho hc hf hl⟩,aj hd,next⟩
theorem _root_.Go.au.R.fD {C:Cx} {all:Array Oper} {o:Oper} {l:List Oper} {k:List KI} {s:St} {f:FuncId} {xs:Array Operand} {ts:Array TypeId} {args:List SV} {rs:List PD} {b:Bool} {j t:Nat} {want c:Bool} (hg:o.guard=some (j,want)) (hj:(all[j]?).bind (·.dst)=some t) (hcc:s.get t = .pd (.raw (.bool c))) (ho:o.op = .call ⟨.value (.func f),xs,ts⟩)
  (h:(c == want)=true→iQ (c == want) (o.op.operands.toList.map (aW s))∧jl C.P s.var s.row (xs.toList.map (vJ s)) args b∧aA C.P f args rs) (hl:b=true→plain rs=true) (hd:fQ s o) (next:R C (.ops all l::k) (s.put o.dst (.gd (c == want) (dN rs)))):R C (.ops all (o::l)::k) s:=
 R.yg hg hj hcc (aj hd) (fun hw=>⟨(h hw).1,.call f xs ts args rs b ho (h hw).2.1 (h hw).2.2 hl⟩) next
theorem _root_.Go.au.R.fE {ι:Type} {C:Cx} {k:List KI} {s:St} {S:ι→St} {Inv:ι→Prop} {μ:ι→Nat} {i:ι} (j:ι) (hj:Inv j) (hm:μ j<μ i:=by show _<_; omega) (l:Lu s (S j):=by (simp only [go_sem]); all_goals (and_intros <;> rfl)):R C (.aU (Fam S Inv μ i)::k) s:=R.jm j hj hm l
theorem _root_.Go.au.R.fU {ι:Type} {C:Cx} {k:List KI} {s:St} {c:Code} (M:ι→St→St) (Inv:ι→Prop) (μ:ι→Nat) (i0:ι) (hi:Inv i0) (round:∀ i,Inv i→R C (.code c :: .aU (Fam (fun i=>M i s) Inv μ i)::k) (M i s)) (l:Lu s (M i0 s):=by (simp only [go_sem]); all_goals (and_intros <;> rfl)):R C (.code (.loop c)::k) s:=
 R.vW M Inv μ i0 hi l round
theorem _root_.Go.au.R.eE {C:Cx} {J:St→Prop} {k:List KI} {s s':St} (h:J s') (l:s'.n=s.n∧Eh s s'.slots∧Je s s'.vars∧Jf s s'.rows∧Ei s s'.maps∧s'.gs=s.gs:=by (simp only [go_sem]); all_goals (and_intros <;> rfl)):R C (.aU J::k) s:=R.oD h l
theorem _root_.Go.au.R.rC {P:Program} {s:St} {k:List KI} {fn:Func} {rs:List PD} {w0:World} {G:Pub} (h:resD P s fn.results.toList=some (True,rs)):R (Cx.fn P fn w0 G rs) (.code .ret::k) s:=R.dJ h trivial
theorem _root_.Go.au.R.rW {P:Program} {s:St} {k:List KI} {fn:Func} {rs:List PD} {w0:World} {G:Pub} (h:resD P s fn.results.toList=some (True,rs)):R (Cx.BF P fn w0 G rs) (.code .ret::k) s:=R.adN h trivial
theorem _root_.Go.au.R.kC {C:Cx} {all:Array Oper} {o:Oper} {l:List Oper} {k:List KI} {s:St} {f:FuncId} {xs:Array Operand} {ts:Array TypeId} {args:List SV} {rs:List PD} {b:Bool} (hf:aA C.P f args rs) (ho:o.op = .call ⟨.value (.func f),xs,ts⟩) (hg:o.guard=none) (hc:jl C.P s.var s.row (xs.toList.map (aW s)) args b)
  (next:R C (.ops all l::k) (s.put o.dst (dN rs))) (hl:b=true→plain rs=true:=by simp [plain,PD.plain]) (hd:fQ s o:=by simp only [go_sem]):R C (.ops all (o::l)::k) s:=R.jr hf ho hg hc hl hd next
theorem _root_.Go.au.RY.kC {C:Cx} {all:Array Oper} {tail:List Oper} {o:Oper} {l:List Oper} {k:List KI} {s:St} {f:FuncId} {xs:Array Operand} {ts:Array TypeId} {args:List SV} {rs:List PD} {b:Bool} (hf:aA C.P f args rs) (ho:o.op = .call ⟨.value (.func f),xs,ts⟩) (hg:o.guard=none) (hc:jl C.P s.var s.row (xs.toList.map (aW s)) args b)
  (next:RY C all tail k l (s.put o.dst (dN rs))) (hl:b=true→plain rs=true:=by simp [plain,PD.plain]) (hd:fQ s o:=by simp only [go_sem]):RY C all tail k (o::l) s:=RY.jr hf ho hg hc hl hd next
theorem _root_.Go.au.R.kW {C:Cx} {all:Array Oper} {o:Oper} {l:List Oper} {k:List KI} {s:St} {f:FuncId} {xs:Array Operand} {ts:Array TypeId} {args:List SV} {rs:List PD} {b:Bool} (hf:aQ C.P f args rs) (ho:o.op = .call ⟨.value (.func f),xs,ts⟩) (hg:o.guard=none) (hc:jl C.P s.var s.row (xs.toList.map (aW s)) args b)
  (next:R C (.ops all l::k) (s.put o.dst (dN rs))) (hdr:C.dr=false:=by rfl) (hl:b=true→plain rs=true:=by simp [plain,PD.plain]) (hd:fQ s o:=by simp only [go_sem]):R C (.ops all (o::l)::k) s:=R.rX hdr hf ho hg hc hl hd next
theorem _root_.Go.au.RY.kW {C:Cx} {all:Array Oper} {tail:List Oper} {o:Oper} {l:List Oper} {k:List KI} {s:St} {f:FuncId} {xs:Array Operand} {ts:Array TypeId} {args:List SV} {rs:List PD} {b:Bool} (hf:aQ C.P f args rs) (ho:o.op = .call ⟨.value (.func f),xs,ts⟩) (hg:o.guard=none) (hc:jl C.P s.var s.row (xs.toList.map (aW s)) args b)
  (next:RY C all tail k l (s.put o.dst (dN rs))) (hdr:C.dr=false:=by rfl) (hl:b=true→plain rs=true:=by simp [plain,PD.plain]) (hd:fQ s o:=by simp only [go_sem]):RY C all tail k (o::l) s:=RY.rX hdr hf ho hg hc hl hd next
abbrev way (w:W):PD:=.ak [ints w.pos,ints w.neg]
abbrev ways (l:List W):PD:=.list 2 (l.map way)
attribute [go_sem] ev uG ev1 EI ay Bz CG sU oQ yI o7 Ez Bv CJ bound Bq FZ zO V4 wI I5 refs idx yR caps rG seqB EH oz CO yX aW vJ iQ SV.strip SV.unbox SV.kill SV.aS SV.bP er ty5 ty9 akN akO akP akQ akR akS akT akU akV akW akX akY akZ ak0 ak1 ak2 ak3 ak4 ak5 ak6 ak7 ak8 ahE ahF ahG ahH ahI ahJ ahK ahL ahM ahN ahO ahP ahQ ahR ahS ahT ahU ahV
attribute [go_sem] BD St.start St.bV slotsOf after dW.wrote List.filter_nil St.get St.put St.set St.setVar St.setRow St.newVar St.newRow St.bP lk up St.var St.row fQ jO cxP cxV cxR rH cwV cwR cwM LC cmV cmR cmW RU caP caV caR caW caM cpP cpV
attribute [go_sem] cpR WS cgV cgR cgW Jf Ei St.lp CY Df St.map aq5 arz false_or
attribute [go_sem] or_true true_or aoM asA Bool.or_false Bool.or_true Bool.false_or Bool.true_or Bool.or_self resD Eh Je Lu pX mW RI WB WC abu WE RJ WG WH abv WI RN WJ WL abw OE w_I Xa c_I Xb s_I Wy WA RH dN Op.operands
attribute [go_sem] Call.operands akF Nat.add_zero Nat.reduceAdd Nat.reduceSub Nat.reduceMul Nat.reduceEqDiff Nat.reduceLT Nat.reduceLeDiff Nat.reduceBEq Nat.reduceBNe reduceCtorEq akl aku ite_self Option.getD_some Option.getD_none Option.map_some Option.map_none Option.bind_some Option.isSome_some Option.isSome_none ap1 apY and_self true_implies false_implies ne_eq ao7 ao4 false_and and_false acn adR List.length_cons List.length_nil ace List.take_succ_cons List.take_zero List.take_nil
attribute [go_sem] List.drop_succ_cons aqA List.drop_nil List.nil_append List.cons_append akw List.all_cons List.all_nil amv aoD aj9 List.getElem?_cons_zero List.getElem?_cons_succ List.contains_nil apD Array.isEmpty_empty List.range_succ_eq_map List.isEmpty_nil Value.oneCell' Bool.and_self arZ aj1 akb Bool.and_false ao3 apl beq_self_eq_true akC arQ Int.toNat_natCast Array.size_empty amj Function.comp implies_true Nat.not_lt_zero Nat.lt_irrefl agM Nat.lt_one_iff Int.natCast_nonneg Bool.not_not
attribute [go_sem] List.toList_toArray beq_true beq_false eq_self aoO imp_self aoy Bool.not_eq_false'
attribute [go_sem] ad1
attribute [go_sem] ag3 Zp
attribute [go_sem] ad4 Zx
attribute [go_sem] ZA
attribute [go_sem] BJ
attribute [go_sem] Dp
attribute [go_sem] Zr zk
attribute [go_sem] qm
attribute [go_sem] H6 uK Jp ad6
attribute [go_sem] abK in3 LJ
attribute [go_sem] abJ
attribute [go_sem] adZ
attribute [go_sem] kn3
attribute [go_sem] Zo
attribute [go_sem] ad3
attribute [go_sem] Zw Zz
attribute [go_sem] mixed Jr uM oH NS qo abI
attribute [go_sem] sl27 sl28 nK pO zi Dt Zy Du Az LK
attribute [go_sem] adY
attribute [go_sem] xu
attribute [go_sem] Ua zh
attribute [go_sem] Zq xO
attribute [go_sem] Zv sz5 nS
attribute [go_sem] Dv su Jo ad5 abL zd3 Zu zd4
attribute [go_sem] ad2
attribute [go_sem] xw abM Dq
attribute [go_sem] Zt
attribute [go_sem] zl pR
attribute [go_sem] Dw sD Jq ad7
attribute [go_sem] Tryz.ntmps3 Tryz.ntmps10 Tryz.ntmps11 Tryz.ntmps12 Tryz.ntmps13 Tryz.ntmps14 Tryz.ntmps15 Tryz.ntmps16 Tryz.ntmps17 Tryz.ntmps18 Tryz.ntmps19 Tryz.ntmps20 Tryz.ntmps21 Tryz.ntmps22 Tryz.ntmps23 Tryz.ntmps24 Tryz.ntmps26 Tryz.ntmps30 Tryz.ntmps32 Tryz.ntmps33 Tryz.ntmps34 Tryz.ntmps35 Tryz.ntmps36 Tryz.ntmps37 Tryz.ntmps38 Tryz.ntmps39 Tryz.ntmps40 Tryz.ntmps41 Tryz.ntmps42
attribute [go_sem] Tryz.ntmps43 Tryz.ntmps44 Tryz.ntmps45 Tryz.ntmps46 Tryz.ntmps47 Tryz.ntmps48 Tryz.ntmps49 Tryz.ntmps50 Tryz.ntmps51 Tryz.ntmps52 Tryz.ntmps53 Tryz.ntmps54 Tryz.ntmps55 Tryz.ntmps56 Tryz.ntmps57 Tryz.ntmps58 Tryz.ntmps59 Tryz.ntmps60 Tryz.ntmps61 Tryz.ntmps62 Tryz.ntmps63 Tryz.ntmps64 Tryz.ntmps65 Tryz.ntmps66 Tryz.ntmps67 Tryz.ntmps68 Tryz.ntmps69 Tryz.ntmps73 Tryz.ntmps75 Tryz.ntmps77 Tryz.ntmps78 Tryz.ntmps79 Tryz.ntmps80 Tryz.ntmps81 Tryz.ntmps82
attribute [go_sem] Tryz.ntmps83 Tryz.ntmps84 Tryz.ntmps85 Tryz.ntmps86 Tryz.ntmps87 Tryz.ntmps88 Tryz.ntmps89 Tryz.ntmps90 Tryz.ntmps91 Tryz.ntmps92 Tryz.ntmps93 Tryz.ntmps94 Tryz.ntmps95 Tryz.ntmps96 Tryz.ntmps97 Tryz.ntmps98 Tryz.ntmps99 Tryz.ntmps100 Tryz.ntmps101 Tryz.ntmps102 Tryz.ntmps103 Tryz.ntmps104 Tryz.ntmps105 Tryz.ntmps106 Tryz.ntmps107 Tryz.ntmps108 Tryz.ntmps109 Tryz.ntmps110 Tryz.ntmps111 Tryz.ntmps112 Tryz.ntmps113 Tryz.ntmps114 Tryz.ntmps115 Tryz.ntmps117 Tryz.ntmps118 Tryz.ntmps119 Tryz.ntmps121 Tryz.ntmps122
attribute [go_sem] Tryz.ntmps124 Tryz.ntmps125 Tryz.ntmps127 Tryz.ntmps129 Tryz.ntmps132 Tryz.ntmps134 Tryz.ntmps135 Tryz.ntmps137 Tryz.ntmps142 Tryz.ntmps143 Tryz.ntmps144 Tryz.ntmps145 Tryz.ntmps146 Tryz.ntmps147 Tryz.ntmps148 Tryz.ntmps149 Tryz.ntmps150 Tryz.ntmps151 Tryz.ntmps152 Tryz.ntmps153 Tryz.ntmps154 Tryz.ntmps155 Tryz.ntmps156 Tryz.ntmps157 Tryz.ntmps158 Tryz.ntmps159 Tryz.ntmps160 Tryz.ntmps161 Tryz.ntmps162
attribute [go_sem] Tryz.ntmps163 Tryz.ntmps164 Tryz.ntmps165 Tryz.ntmps166 Tryz.ntmps167 Tryz.ntmps168 Tryz.ntmps169 Tryz.ntmps170 Tryz.ntmps171 Tryz.ntmps172 Tryz.ntmps173 Tryz.ntmps174 Tryz.ntmps175 Tryz.ntmps176 Tryz.ntmps177 Tryz.ntmps178 Tryz.ntmps179 Tryz.ntmps180 Tryz.ntmps181 Tryz.ntmps182 Tryz.ntmps183 Tryz.ntmps184 Tryz.ntmps185 Tryz.ntmps186 Tryz.ntmps187 Tryz.ntmps188 Tryz.ntmps189 Tryz.ntmps190 Tryz.ntmps191 Tryz.ntmps196 Tryz.ntmps197 Tryz.ntmps200
attribute [go_sem] Tryz.ntmps208 Tryz.ntmps209 Tryz.ntmps210 Tryz.ntmps211 Tryz.ntmps212 Tryz.ntmps213 Tryz.ntmps214 Tryz.ntmps215 Tryz.ntmps216 Tryz.ntmps217 Tryz.ntmps218 Tryz.ntmps219 Tryz.ntmps220 Tryz.ntmps221 Tryz.ntmps222 Tryz.ntmps223 Tryz.ntmps224 Tryz.ntmps225 Tryz.ntmps226 Tryz.ntmps227 Tryz.ntmps228 Tryz.ntmps229 Tryz.ntmps230 Tryz.ntmps231 Tryz.ntmps232 Tryz.ntmps233 Tryz.ntmps234 Tryz.ntmps235 Tryz.ntmps236 Tryz.ntmps237 Tryz.ntmps238 Tryz.ntmps239 Tryz.ntmps240 Tryz.ntmps241 Tryz.ntmps242
attribute [go_sem] Tryz.ntmps243 Tryz.ntmps244 Tryz.ntmps245 Tryz.ntmps246 Tryz.ntmps247 Tryz.ntmps248 Tryz.ntmps249 Tryz.ntmps250 Tryz.ntmps251 Tryz.ntmps252 Tryz.ntmps253 Tryz.ntmps254 Tryz.ntmps255 Tryz.ntmps256 Tryz.ntmps257 Tryz.ntmps271 Tryz.ntmps272 Tryz.ntmps273 Tryz.ntmps274 Tryz.ntmps275 Tryz.ntmps276 Tryz.ntmps277 Tryz.ntmps278 Tryz.ntmps279 Tryz.ntmps280 Tryz.ntmps281 Tryz.ntmps282
attribute [go_sem] Tryz.ntmps283 Tryz.ntmps284 Tryz.ntmps285 Tryz.ntmps286 Tryz.ntmps287 Tryz.ntmps288 Tryz.ntmps289 Tryz.ntmps290 Tryz.ntmps291 Tryz.ntmps292 Tryz.ntmps293 Tryz.ntmps294 Tryz.ntmps295 Tryz.ntmps296 Tryz.ntmps297 Tryz.ntmps298 Tryz.ntmps302 Tryz.ntmps303 Tryz.ntmps304 Tryz.ntmps305 Tryz.ntmps306 Tryz.ntmps307 Tryz.ntmps308 Tryz.ntmps309 Tryz.ntmps310 Tryz.ntmps311 Tryz.ntmps312 Tryz.ntmps313 Tryz.ntmps314 Tryz.ntmps315 Tryz.ntmps316 Tryz.ntmps317 Tryz.ntmps318 Tryz.ntmps319 Tryz.ntmps321 Tryz.ntmps322
attribute [go_sem] Tryz.ntmps323 Tryz.ntmps325 Tryz.ntmps326 Tryz.ntmps327 Tryz.ntmps328 Tryz.ntmps329 Tryz.ntmps330 Tryz.ntmps332 Tryz.ntmps333 Tryz.ntmps334 Tryz.ntmps337 Tryz.ntmps338 Tryz.ntmps339 Tryz.ntmps340 Tryz.ntmps341 Tryz.ntmps343 Tryz.ntmps344 Tryz.ntmps349 Tryz.ntmps350 Tryz.ntmps351 Tryz.ntmps352 Tryz.ntmps361 Tryz.ntmps363 Tryz.ntmps364 Tryz.ntmps372 Tryz.ntmps392 Tryz.ntmps393
attribute [go_sem] Tryz.ntmps401 Tryz.ntmps403 Tryz.ntmps404 Tryz.ntmps406 Tryz.ntmps407 Tryz.ntmps408 Tryz.ntmps410 Tryz.ntmps411 Tryz.ntmps413
end Go.Proofs.Z
