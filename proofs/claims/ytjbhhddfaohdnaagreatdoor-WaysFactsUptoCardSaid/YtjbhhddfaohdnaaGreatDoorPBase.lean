/- A part of the proof. -/
import Derived.Test.YtjbhhddfaohdnaaGreatDoorPPw
import Derived.Test.YtjbhhddfaohdnaaGreatDoorPTy
import Derived.IntWalk
set_option linter.all false
set_option linter.deprecated false
namespace Go.Proofs.Z
open Go Go.au
abbrev I (n:Int):PD:=.raw (.int .i64 n)
abbrev B (b:Bool):PD:=.raw (.bool b)
abbrev ints (l:List Int):PD:=.list 1 (l.map I)
theorem KH (l:List Int):(ints l).width=1:=rfl
theorem w_I (n:Int):(I n).width=1:=rfl
theorem Ri (l:List Int) (j:Nat):(ints l).cell j=ints l:=rfl
theorem c_I (n:Int) (j:Nat):(I n).cell j=I n:=rfl
theorem Rj (l:List Int):(ints l).cells=[ints l]:=rfl
theorem s_I (n:Int):(I n).cells=[I n]:=rfl
theorem wrap64 {n:Int} (h1:-9223372036854775808≤n) (h2:n<9223372036854775808):IntKind.i64.wrap n=n:=IntWalk.i64_in n ⟨h1,by omega⟩
theorem wrapN {k:Nat} (h:k<9223372036854775807):IntKind.i64.wrap ((k:Int)+1)=((k+1:Nat):Int):=by
 rw [wrap64 (by omega) (by omega)]; rfl
theorem getD_map {α:Type} (f:α→PD) (l:List α) (i:Nat) (h:i<l.length) (d:PD):(l.map f).getD i d=f l[i]:=by
 simp [h]
theorem _root_.Go.au.R.bound {C:Cx} {k:List KI} {s:St} (t:Nat) {sz:Nat} {ds:List PD} (h:s.get t = .pd (.list sz ds)) (next:ds.length≤maxLen→R C k s):R C k s:=fun a w E g=>by
 have h1:=g.slots t
 rw [h] at h1
 refine next ?_ a w E g
 generalize a.tmps.getD t undef=v at h1
 cases h1 with
 | nil=>simp
 | empty=>simp
 | list _ _ b off cap vs hcap hmax=>omega
theorem drop_cons {α:Type} {l:List α} {k:Nat} (h:k<l.length):l.drop k=l[k]::l.drop (k+1):=arG h
theorem _root_.Go.au.R.ji {C:Cx} {all:Array Oper} {o:Oper} {l:List Oper} {k:List KI} {s:St} {f:FuncId} {xs:Array Operand} {ts:Array TypeId} {args:List SV} {rs:List PD} {b:Bool} (hf:aC C.P f args rs) (ho:o.op = .call ⟨.value (.func f),xs,ts⟩) (hg:o.guard=none) (hc:jf C.P s.var s.row (xs.toList.map (aU s)) args b)
  (hl:b=true→plain rs=true) (hd:fM s o) (next:R C (.ops all l::k) (s.put o.dst (fC rs))):R C (.ops all (o::l)::k) s:=R.y hg (ah hd) (.call f xs ts args rs b ho hc hf hl) next
theorem _root_.Go.au.RY.ji {C:Cx} {all:Array Oper} {tail:List Oper} {o:Oper} {l:List Oper} {k:List KI} {s:St} {f:FuncId} {xs:Array Operand} {ts:Array TypeId} {args:List SV} {rs:List PD} {b:Bool} (hf:aC C.P f args rs) (ho:o.op = .call ⟨.value (.func f),xs,ts⟩) (hg:o.guard=none) (hc:jf C.P s.var s.row (xs.toList.map (aU s)) args b)
  (hl:b=true→plain rs=true) (hd:fM s o) (next:RY C all tail k l (s.put o.dst (fC rs))):RY C all tail k (o::l) s:=⟨_,.inl ⟨hg,.call f xs ts args rs b ho hc hf hl⟩,ah hd,next⟩
theorem _root_.Go.au.R.sK {C:Cx} {all:Array Oper} {o:Oper} {l:List Oper} {k:List KI} {s:St} {f:FuncId} {xs:Array Operand} {ts:Array TypeId} {args:List SV} {rs:List PD} {b:Bool} (hdr:C.dr=false) (hf:aT C.P f args rs) (ho:o.op = .call ⟨.value (.func f),xs,ts⟩) (hg:o.guard=none) (hc:jf C.P s.var s.row (xs.toList.map (aU s)) args b)
  (hl:b=true→plain rs=true) (hd:fM s o) (next:R C (.ops all l::k) (s.put o.dst (fC rs))):R C (.ops all (o::l)::k) s:=R.y hg (ah hd) (.sK f xs ts args rs b hdr ho hc hf hl) next
theorem _root_.Go.au.RY.sK {C:Cx} {all:Array Oper} {tail:List Oper} {o:Oper} {l:List Oper} {k:List KI} {s:St} {f:FuncId} {xs:Array Operand} {ts:Array TypeId} {args:List SV} {rs:List PD} {b:Bool} (hdr:C.dr=false) (hf:aT C.P f args rs) (ho:o.op = .call ⟨.value (.func f),xs,ts⟩) (hg:o.guard=none) (hc:jf C.P s.var s.row (xs.toList.map (aU s)) args b)
  (hl:b=true→plain rs=true) (hd:fM s o) (next:RY C all tail k l (s.put o.dst (fC rs))):RY C all tail k (o::l) s:=⟨_,.inl ⟨hg,.sK f xs ts args rs b hdr ho hc hf hl⟩,ah hd,next⟩
theorem _root_.Go.au.R.vH {C:Cx} {all:Array Oper} {o:Oper} {l:List Oper} {k:List KI} {s:St} {f:FuncId} {xs:Array Operand} {ts:Array TypeId} {args:List SV} {rs:List PD} {b:Bool} {j t:Nat} {want c:Bool} (hg:o.guard=some (j,want)) (hj:(all[j]?).bind (·.dst)=some t) (hcc:s.get t = .pd (.raw (.bool c))) (ho:o.op = .call ⟨.value (.func f),xs,ts⟩)
  (h:(c == want)=true→nK (c == want) (o.op.operands.toList.map (aU s))∧jf C.P s.var s.row (xs.toList.map (uS s)) args b∧aC C.P f args rs) (hl:b=true→plain rs=true) (hd:fM s o) (next:R C (.ops all l::k) (s.put o.dst (.gd (c == want) (fC rs)))):R C (.ops all (o::l)::k) s:=
 R.yg hg hj hcc (ah hd) (fun hw=>⟨(h hw).1,.call f xs ts args rs b ho (h hw).2.1 (h hw).2.2 hl⟩) next
theorem _root_.Go.au.R.fE {ι:Type} {C:Cx} {k:List KI} {s:St} {S:ι→St} {Inv:ι→Prop} {μ:ι→Nat} {i:ι} (j:ι) (hj:Inv j) (hm:μ j<μ i:=by show _<_; omega) (l:Kw s (S j):=by (simp only [go_sem]); all_goals (and_intros <;> rfl)):R C (.aP (Fam S Inv μ i)::k) s:=R.jo j hj hm l
theorem _root_.Go.au.R.fU {ι:Type} {C:Cx} {k:List KI} {s:St} {c:Code} (M:ι→St→St) (Inv:ι→Prop) (μ:ι→Nat) (i0:ι) (hi:Inv i0) (round:∀ i,Inv i→R C (.code c :: .aP (Fam (fun i=>M i s) Inv μ i)::k) (M i s)) (l:Kw s (M i0 s):=by (simp only [go_sem]); all_goals (and_intros <;> rfl)):R C (.code (.loop c)::k) s:=
 R.wC M Inv μ i0 hi l round
theorem _root_.Go.au.R.eE {C:Cx} {J:St→Prop} {k:List KI} {s s':St} (h:J s') (l:s'.n=s.n∧CZ s s'.slots∧IG s s'.vars∧II s s'.rows∧C9 s s'.maps∧s'.gs=s.gs:=by (simp only [go_sem]); all_goals (and_intros <;> rfl)):R C (.aP J::k) s:=R.oL h l
theorem _root_.Go.au.R.rC {P:Program} {s:St} {k:List KI} {fn:Func} {rs:List PD} {w0:World} {G:Pub} (h:resD P s fn.results.toList=some (True,rs)):R (Cx.fn P fn w0 G rs) (.code .ret::k) s:=R.dK h trivial
theorem _root_.Go.au.R.rW {P:Program} {s:St} {k:List KI} {fn:Func} {rs:List PD} {w0:World} {G:Pub} (h:resD P s fn.results.toList=some (True,rs)):R (Cx.CU P fn w0 G rs) (.code .ret::k) s:=R.afU h trivial
theorem _root_.Go.au.R.kC {C:Cx} {all:Array Oper} {o:Oper} {l:List Oper} {k:List KI} {s:St} {f:FuncId} {xs:Array Operand} {ts:Array TypeId} {args:List SV} {rs:List PD} {b:Bool} (hf:aC C.P f args rs) (ho:o.op = .call ⟨.value (.func f),xs,ts⟩) (hg:o.guard=none) (hc:jf C.P s.var s.row (xs.toList.map (aU s)) args b)
  (next:R C (.ops all l::k) (s.put o.dst (fC rs))) (hl:b=true→plain rs=true:=by simp [plain,PD.plain]) (hd:fM s o:=by simp only [go_sem]):R C (.ops all (o::l)::k) s:=R.ji hf ho hg hc hl hd next
theorem _root_.Go.au.RY.kC {C:Cx} {all:Array Oper} {tail:List Oper} {o:Oper} {l:List Oper} {k:List KI} {s:St} {f:FuncId} {xs:Array Operand} {ts:Array TypeId} {args:List SV} {rs:List PD} {b:Bool} (hf:aC C.P f args rs) (ho:o.op = .call ⟨.value (.func f),xs,ts⟩) (hg:o.guard=none) (hc:jf C.P s.var s.row (xs.toList.map (aU s)) args b)
  (next:RY C all tail k l (s.put o.dst (fC rs))) (hl:b=true→plain rs=true:=by simp [plain,PD.plain]) (hd:fM s o:=by simp only [go_sem]):RY C all tail k (o::l) s:=RY.ji hf ho hg hc hl hd next
theorem _root_.Go.au.R.kW {C:Cx} {all:Array Oper} {o:Oper} {l:List Oper} {k:List KI} {s:St} {f:FuncId} {xs:Array Operand} {ts:Array TypeId} {args:List SV} {rs:List PD} {b:Bool} (hf:aT C.P f args rs) (ho:o.op = .call ⟨.value (.func f),xs,ts⟩) (hg:o.guard=none) (hc:jf C.P s.var s.row (xs.toList.map (aU s)) args b)
  (next:R C (.ops all l::k) (s.put o.dst (fC rs))) (hdr:C.dr=false:=by rfl) (hl:b=true→plain rs=true:=by simp [plain,PD.plain]) (hd:fM s o:=by simp only [go_sem]):R C (.ops all (o::l)::k) s:=R.sK hdr hf ho hg hc hl hd next
theorem _root_.Go.au.RY.kW {C:Cx} {all:Array Oper} {tail:List Oper} {o:Oper} {l:List Oper} {k:List KI} {s:St} {f:FuncId} {xs:Array Operand} {ts:Array TypeId} {args:List SV} {rs:List PD} {b:Bool} (hf:aT C.P f args rs) (ho:o.op = .call ⟨.value (.func f),xs,ts⟩) (hg:o.guard=none) (hc:jf C.P s.var s.row (xs.toList.map (aU s)) args b)
  (next:RY C all tail k l (s.put o.dst (fC rs))) (hdr:C.dr=false:=by rfl) (hl:b=true→plain rs=true:=by simp [plain,PD.plain]) (hd:fM s o:=by simp only [go_sem]):RY C all tail k (o::l) s:=RY.sK hdr hf ho hg hc hl hd next
abbrev way (w:W):PD:=.ak [ints w.pos,ints w.neg]
abbrev ways (l:List W):PD:=.list 2 (l.map way)
attribute [go_sem] ev tZ ev1 CY ay zn Aq qp kU wu ny CQ yV Ar bound zi DL zk U3 uM Hz refs idx xX caps qw seqB DZ nO Au uU aU uS nK SV.strip SV.unbox SV.kill SV.aQ SV.bT er ty5 ty9 anz anA anB anC anD anE anF anG anH anI anJ anK anL anM anN anO anP anQ anR anS anT akq akr aks akt aku akv akw akx aky akz akA akB akC akD akE akF akG akH akI akJ akK
attribute [go_sem] yX St.start St.bn slotsOf after dX.wrote List.filter_nil St.get St.put St.set St.setVar St.setRow St.newVar St.newRow St.bT lk up St.var St.row fM jh cxP cxV cxR Oh cwV cwR cwM EU cmV cmR cmW QL caP caV caR caW caM cpP cpV
attribute [go_sem] cpR Vl cgV cgR cgW csP csV csR csW csM II C9 St.lp Aw St.enter D9 Ea D8 SV.ren qc vw rY St.leave zB wY qX qY qg St.wE Eb sN yH yI SV.good lD Ec St.map atS arL asW
attribute [go_sem] atT atU apa anq avK av8 avJ Bool.true_or Bool.or_self resD CZ IG Kw pY gY MQ Qz QA Wj QB MR QC QD Wn QE MS QF QG Wp KH w_I Ri c_I Rj s_I Qx Qy MP fC Op.operands
attribute [go_sem] Call.operands ao8 Nat.add_zero Nat.reduceAdd Nat.reduceSub Nat.reduceMul Nat.reduceEqDiff Nat.reduceLT Nat.reduceLeDiff Nat.reduceBEq Nat.reduceBNe reduceCtorEq aiq ajs ite_self Option.getD_some Option.getD_none Option.map_some Option.map_none Option.bind_some Option.isSome_some Option.isSome_none asX ate and_self true_implies avM ne_eq arR arO false_and and_false ads adG List.length_cons List.length_nil adu List.take_succ_cons List.take_zero List.take_nil
attribute [go_sem] atX atl List.drop_nil List.nil_append List.cons_append ao3 List.all_cons List.all_nil apu arX agl List.getElem?_cons_zero List.getElem?_cons_succ List.contains_nil aq6 Array.isEmpty_empty auJ List.isEmpty_nil Value.oneCell' avI avN arv avp Bool.and_false asw asQ auR aj9 aug Int.toNat_natCast Array.size_empty ane Function.comp av7 Nat.not_lt_zero avO aew Nat.lt_one_iff avz Bool.not_not
attribute [go_sem] List.toList_toArray beq_true beq_false eq_self arA imp_self ap8 avA
attribute [go_sem] agE
attribute [go_sem] ag3 abq
attribute [go_sem] agH
attribute [go_sem] agK WH
attribute [go_sem] abu abz agO
attribute [go_sem] FU
attribute [go_sem] FW
attribute [go_sem] abv FX agM
attribute [go_sem] FZ BU Q9 agS agP
attribute [go_sem] YR YS YT
attribute [go_sem] agQ
attribute [go_sem] WM in3 Oo
attribute [go_sem] WL
attribute [go_sem] agD
attribute [go_sem] kn3
attribute [go_sem] abp
attribute [go_sem] agG agJ
attribute [go_sem] WG abt aby
attribute [go_sem] WJ mixed KG sQ oN Em Qb qA adK
attribute [go_sem] sl27 sl28 sl31 nP FV BP lY abA F5 Oq
attribute [go_sem] agC
attribute [go_sem] EW
attribute [go_sem] WO abo
attribute [go_sem] rQ agI
attribute [go_sem] WE WI sz5 BQ agL
attribute [go_sem] yc zG Q8 agR adL zd3 abr zd4 abx
attribute [go_sem] agF
attribute [go_sem] EX adM
attribute [go_sem] Ej
attribute [go_sem] abw FY agN
attribute [go_sem] BR zH Rh agT
attribute [go_sem] Tryz.ntmps6 Tryz.ntmps8 Tryz.ntmps9 Tryz.ntmps10 Tryz.ntmps11 Tryz.ntmps12 Tryz.ntmps13 Tryz.ntmps15 Tryz.ntmps16 Tryz.ntmps17 Tryz.ntmps18 Tryz.ntmps19 Tryz.ntmps20 Tryz.ntmps21 Tryz.ntmps22 Tryz.ntmps23 Tryz.ntmps24 Tryz.ntmps25 Tryz.ntmps26 Tryz.ntmps27 Tryz.ntmps28 Tryz.ntmps29 Tryz.ntmps30 Tryz.ntmps31 Tryz.ntmps32 Tryz.ntmps33 Tryz.ntmps34 Tryz.ntmps35 Tryz.ntmps36 Tryz.ntmps37 Tryz.ntmps38 Tryz.ntmps39 Tryz.ntmps40 Tryz.ntmps41 Tryz.ntmps42
attribute [go_sem] Tryz.ntmps43 Tryz.ntmps44 Tryz.ntmps46 Tryz.ntmps47 Tryz.ntmps49 Tryz.ntmps50 Tryz.ntmps51 Tryz.ntmps52 Tryz.ntmps53 Tryz.ntmps54 Tryz.ntmps55 Tryz.ntmps56 Tryz.ntmps57 Tryz.ntmps58 Tryz.ntmps59 Tryz.ntmps60 Tryz.ntmps61 Tryz.ntmps62 Tryz.ntmps63 Tryz.ntmps64 Tryz.ntmps65 Tryz.ntmps66 Tryz.ntmps67 Tryz.ntmps68 Tryz.ntmps69 Tryz.ntmps70 Tryz.ntmps71 Tryz.ntmps72 Tryz.ntmps73 Tryz.ntmps74 Tryz.ntmps75 Tryz.ntmps76 Tryz.ntmps77 Tryz.ntmps78 Tryz.ntmps79 Tryz.ntmps80 Tryz.ntmps81 Tryz.ntmps82
attribute [go_sem] Tryz.ntmps83 Tryz.ntmps84 Tryz.ntmps85 Tryz.ntmps86 Tryz.ntmps87 Tryz.ntmps88 Tryz.ntmps89 Tryz.ntmps90 Tryz.ntmps91 Tryz.ntmps94 Tryz.ntmps95 Tryz.ntmps96 Tryz.ntmps97 Tryz.ntmps99 Tryz.ntmps102 Tryz.ntmps103 Tryz.ntmps104 Tryz.ntmps105 Tryz.ntmps106 Tryz.ntmps107 Tryz.ntmps108 Tryz.ntmps109 Tryz.ntmps110 Tryz.ntmps111 Tryz.ntmps112 Tryz.ntmps113 Tryz.ntmps114 Tryz.ntmps115 Tryz.ntmps116 Tryz.ntmps117 Tryz.ntmps118 Tryz.ntmps119 Tryz.ntmps120 Tryz.ntmps121 Tryz.ntmps122
attribute [go_sem] Tryz.ntmps123 Tryz.ntmps124 Tryz.ntmps125 Tryz.ntmps126 Tryz.ntmps127 Tryz.ntmps128 Tryz.ntmps129 Tryz.ntmps130 Tryz.ntmps131 Tryz.ntmps132 Tryz.ntmps133 Tryz.ntmps134 Tryz.ntmps135 Tryz.ntmps137 Tryz.ntmps138 Tryz.ntmps139 Tryz.ntmps140 Tryz.ntmps141 Tryz.ntmps142 Tryz.ntmps143 Tryz.ntmps144 Tryz.ntmps145 Tryz.ntmps146 Tryz.ntmps147 Tryz.ntmps148 Tryz.ntmps149 Tryz.ntmps150 Tryz.ntmps151 Tryz.ntmps152 Tryz.ntmps153 Tryz.ntmps154 Tryz.ntmps155 Tryz.ntmps156 Tryz.ntmps157 Tryz.ntmps158
attribute [go_sem] Tryz.ntmps163 Tryz.ntmps165 Tryz.ntmps166 Tryz.ntmps167 Tryz.ntmps168 Tryz.ntmps169 Tryz.ntmps170 Tryz.ntmps171 Tryz.ntmps172 Tryz.ntmps173 Tryz.ntmps174 Tryz.ntmps175 Tryz.ntmps176 Tryz.ntmps177 Tryz.ntmps178 Tryz.ntmps179 Tryz.ntmps180 Tryz.ntmps181 Tryz.ntmps182 Tryz.ntmps183 Tryz.ntmps184 Tryz.ntmps185 Tryz.ntmps186 Tryz.ntmps187 Tryz.ntmps188 Tryz.ntmps189 Tryz.ntmps190 Tryz.ntmps191 Tryz.ntmps192 Tryz.ntmps193 Tryz.ntmps194 Tryz.ntmps195 Tryz.ntmps196 Tryz.ntmps197 Tryz.ntmps198 Tryz.ntmps199 Tryz.ntmps200 Tryz.ntmps201 Tryz.ntmps202
attribute [go_sem] Tryz.ntmps203 Tryz.ntmps204 Tryz.ntmps207 Tryz.ntmps208 Tryz.ntmps209 Tryz.ntmps210 Tryz.ntmps211 Tryz.ntmps212 Tryz.ntmps213 Tryz.ntmps214 Tryz.ntmps215 Tryz.ntmps216 Tryz.ntmps217 Tryz.ntmps218 Tryz.ntmps219 Tryz.ntmps220 Tryz.ntmps221 Tryz.ntmps222 Tryz.ntmps223 Tryz.ntmps224 Tryz.ntmps225 Tryz.ntmps226 Tryz.ntmps227 Tryz.ntmps228 Tryz.ntmps229 Tryz.ntmps230 Tryz.ntmps240 Tryz.ntmps241 Tryz.ntmps242
attribute [go_sem] Tryz.ntmps243 Tryz.ntmps244 Tryz.ntmps245 Tryz.ntmps246 Tryz.ntmps247 Tryz.ntmps248 Tryz.ntmps249 Tryz.ntmps250 Tryz.ntmps251 Tryz.ntmps252 Tryz.ntmps253 Tryz.ntmps254 Tryz.ntmps255 Tryz.ntmps256 Tryz.ntmps257 Tryz.ntmps258 Tryz.ntmps259 Tryz.ntmps260 Tryz.ntmps263 Tryz.ntmps264 Tryz.ntmps265 Tryz.ntmps266 Tryz.ntmps267 Tryz.ntmps268 Tryz.ntmps269 Tryz.ntmps270 Tryz.ntmps271 Tryz.ntmps272 Tryz.ntmps273 Tryz.ntmps274 Tryz.ntmps275 Tryz.ntmps276 Tryz.ntmps277 Tryz.ntmps278 Tryz.ntmps281 Tryz.ntmps282
attribute [go_sem] Tryz.ntmps283 Tryz.ntmps284 Tryz.ntmps285 Tryz.ntmps286 Tryz.ntmps287 Tryz.ntmps288 Tryz.ntmps289 Tryz.ntmps290 Tryz.ntmps291 Tryz.ntmps292 Tryz.ntmps293 Tryz.ntmps294 Tryz.ntmps295 Tryz.ntmps296 Tryz.ntmps297 Tryz.ntmps298 Tryz.ntmps299 Tryz.ntmps300 Tryz.ntmps301 Tryz.ntmps302 Tryz.ntmps303 Tryz.ntmps304 Tryz.ntmps305 Tryz.ntmps306 Tryz.ntmps307 Tryz.ntmps308 Tryz.ntmps309 Tryz.ntmps310 Tryz.ntmps311 Tryz.ntmps312 Tryz.ntmps313 Tryz.ntmps314 Tryz.ntmps315 Tryz.ntmps316 Tryz.ntmps317 Tryz.ntmps318 Tryz.ntmps319 Tryz.ntmps321 Tryz.ntmps322
attribute [go_sem] Tryz.ntmps323 Tryz.ntmps324 Tryz.ntmps325 Tryz.ntmps326 Tryz.ntmps327 Tryz.ntmps328 Tryz.ntmps329 Tryz.ntmps330 Tryz.ntmps332 Tryz.ntmps333 Tryz.ntmps334 Tryz.ntmps337 Tryz.ntmps338 Tryz.ntmps339 Tryz.ntmps340 Tryz.ntmps341 Tryz.ntmps343 Tryz.ntmps344 Tryz.ntmps349 Tryz.ntmps350 Tryz.ntmps351 Tryz.ntmps352 Tryz.ntmps361 Tryz.ntmps363 Tryz.ntmps364 Tryz.ntmps372 Tryz.ntmps392 Tryz.ntmps393
attribute [go_sem] Tryz.ntmps401 Tryz.ntmps403 Tryz.ntmps404 Tryz.ntmps406 Tryz.ntmps407 Tryz.ntmps408 Tryz.ntmps410 Tryz.ntmps411 Tryz.ntmps413
end Go.Proofs.Z
