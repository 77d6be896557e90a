/- A part of the proof. -/
import Derived.Test.YtgeljjfmcmbejaaGreatDoorPTy
import Derived.IntWalk
set_option linter.all false
set_option linter.deprecated false
set_option maxRecDepth 100000
set_option maxHeartbeats 4000000
namespace Go.Proofs.Z
open Go.au
variable {k:List KI}{α ι:Type}{C:Cx}{s:St}{l:List Oper}{all:Array Oper}{o:Oper}{f:FuncId}{xs:Array Operand}{t T:Array TypeId}{args:List SV}{rs:List PD}{b:Bool}
abbrev I(n:Int):PD:=.raw (.int .i64 n)
abbrev B(b:Bool):PD:=.raw (.bool b)
abbrev ints(l:List Int):PD:=.list 1 (l.map I)
def PB(l:List Int):(ints l).width=1:=rfl
def w_I(n:Int):(I n).width=1:=rfl
def PC(l:List Int)(j:Nat):(ints l).cell j=ints l:=rfl
def c_I(n:Int)(j:Nat):(I n).cell j=I n:=rfl
def PF(l:List Int):(ints l).cells=[ints l]:=rfl
def s_I(n:Int):(I n).cells=[I n]:=rfl
def wrap64{n:Int}(h:-9223372036854775808<=n)(H:n<9223372036854775808):IntKind.i64.wrap n=n:=IntWalk.i64_in n ⟨h,qk⟩
def wrapN{k:Nat}(h:k<9223372036854775807):IntKind.i64.wrap ((k:Int)+1)=((k+1:Nat):Int):=by
 rw [wrap64 qk qk];rfl
def getD_map(f:α->PD)(l:List α)(i:Nat)(h:i<l.length)(d:PD):(l.map f).getD i d=f l[i]:=by
 simp [h]
def _root_.Go.au.R.bound(t:Nat){sz:Nat}{ds:List PD}(h:s.get t= .pd (.list sz ds))(next:ds.length<=maxLen->R C k s):R C k s:=λa w E g=>by
 have H:=g.slots t;rw [h]at H;refine next ?_ a w E g
 generalize a.tmps.getD t undef=v at H
 cases H with
 |nil=>simp
 |empty=>simp
 |list _ _ b off d e p x=>omega
def drop_cons{l:List α}{k:Nat}(h:k<l.length):l.drop k=l[k]::l.drop (k+1):=ij h
def _root_.Go.au.R.lY(a:aG C.P f args rs)(h:o.op= .call ⟨.value (.func f),xs,t⟩)(g:o.guard=none)(e:iD C.P s.var s.row (xs.toList.map (aO s)) args b)
  (H:b=true->plain rs=true)(d:dN s o)(next:R C (.ops all l::k) (s.put o.dst (eX rs))):R C (.ops all (o::l)::k) s:=R.y g (ah d) (.call f xs t args rs b h e a H) next
def _root_.Go.au.RY.lY{t:List Oper}(a:aG C.P f args rs)(h:o.op= .call ⟨.value (.func f),xs,T⟩)(g:o.guard=none)(e:iD C.P s.var s.row (xs.toList.map (aO s)) args b)
  (H:b=true->plain rs=true)(d:dN s o)(next:RY C all t k l (s.put o.dst (eX rs))):RY C all t k (o::l) s:=⟨_,.inl ⟨g,.call f xs T args rs b h e a H⟩,ah d,next⟩
def _root_.Go.au.R.o7(h:C.dr=false)(d:bg C.P f args rs)(H:o.op= .call ⟨.value (.func f),xs,t⟩)(g:o.guard=none)(i:iD C.P s.var s.row (xs.toList.map (aO s)) args b)
  (a:b=true->plain rs=true)(e:dN s o)(next:R C (.ops all l::k) (s.put o.dst (eX rs))):R C (.ops all (o::l)::k) s:=R.y g (ah e) (.o7 f xs t args rs b h H i d a) next
def _root_.Go.au.RY.o7{t:List Oper}(h:C.dr=false)(d:bg C.P f args rs)(H:o.op= .call ⟨.value (.func f),xs,T⟩)(g:o.guard=none)(i:iD C.P s.var s.row (xs.toList.map (aO s)) args b)
  (a:b=true->plain rs=true)(e:dN s o)(next:RY C all t k l (s.put o.dst (eX rs))):RY C all t k (o::l) s:=⟨_,.inl ⟨g,.o7 f xs T args rs b h H i d a⟩,ah e,next⟩
def _root_.Go.au.R.zJ{j t:Nat}{a c:Bool}(m:o.guard=some (j,a))(i:(all[j]?).bind (·.dst)=some t)(d:s.get t= .pd (.raw (.bool c)))(e:o.op= .call ⟨.value (.func f),xs,T⟩)
  (h:(c==a)=true->qF (c==a) (o.op.operands.toList.map (aO s))/\iD C.P s.var s.row (xs.toList.map (yI s)) args b/\aG C.P f args rs)(g:b=true->plain rs=true)(n:dN s o)(next:R C (.ops all l::k) (s.put o.dst (.gd (c==a) (eX rs)))):R C (.ops all (o::l)::k) s:=
 R.yg m i d (ah n) (λH=>⟨(h H).1,.call f xs T args rs b e (h H).2.1 (h H).2.2 g⟩) next
def _root_.Go.au.R.fE{S:ι->St}{Inv:ι->Prop}{μ:ι->Nat}{i:ι}(j:ι)(h:Inv j)(hm:μ j<μ i:=by show _<_;omega)(l:QM s (S j):=by(simp only [go_sem]);all_goals(and_intros<;>rfl)):R C (.aU (Fam S Inv μ i)::k) s:=R.nZ j h hm l
def _root_.Go.au.R.fU{c:Code}(M:ι->St->St)(Inv:ι->Prop)(μ:ι->Nat)(a:ι)(hi:Inv a)(r:∀i,Inv i->R C (.code c :: .aU (Fam (λi=>M i s) Inv μ i)::k) (M i s))(l:QM s (M a s):=by(simp only [go_sem]);all_goals(and_intros<;>rfl)):R C (.code (.loop c)::k) s:=
 R.og M Inv μ a hi l r
def _root_.Go.au.R.eE{J:St->Prop}{s':St}(h:J s')(l:s'.n=s.n/\AA s s'.slots/\QK s s'.vars/\KF s s'.rows/\Hf s s'.maps/\s'.gs=s.gs:=by(simp only [go_sem]);all_goals(and_intros<;>rfl)):R C (.aU J::k) s:=R.o8 h l
def _root_.Go.au.R.rC{P:Program}{fn:Func}{a:World}{G:Pub}(h:resD P s fn.results.toList=some (True,rs)):R (Cx.fn P fn a G rs) (.code .ret::k) s:=R.dS h trivial
def _root_.Go.au.R.rW{P:Program}{fn:Func}{a:World}{G:Pub}(h:resD P s fn.results.toList=some (True,rs)):R (Cx.DU P fn a G rs) (.code .ret::k) s:=R.oj h trivial
def _root_.Go.au.R.kC(a:aG C.P f args rs)(h:o.op= .call ⟨.value (.func f),xs,t⟩)(g:o.guard=none)(e:iD C.P s.var s.row (xs.toList.map (aO s)) args b)
  (next:R C (.ops all l::k) (s.put o.dst (eX rs)))(H:b=true->plain rs=true:=by simp [plain,PD.plain])(d:dN s o:=by simp only [go_sem]):R C (.ops all (o::l)::k) s:=R.lY a h g e H d next
def _root_.Go.au.RY.kC{t:List Oper}(a:aG C.P f args rs)(h:o.op= .call ⟨.value (.func f),xs,T⟩)(g:o.guard=none)(e:iD C.P s.var s.row (xs.toList.map (aO s)) args b)
  (next:RY C all t k l (s.put o.dst (eX rs)))(H:b=true->plain rs=true:=by simp [plain,PD.plain])(d:dN s o:=by simp only [go_sem]):RY C all t k (o::l) s:=RY.lY a h g e H d next
def _root_.Go.au.R.kW(d:bg C.P f args rs)(H:o.op= .call ⟨.value (.func f),xs,t⟩)(g:o.guard=none)(i:iD C.P s.var s.row (xs.toList.map (aO s)) args b)
  (next:R C (.ops all l::k) (s.put o.dst (eX rs)))(h:C.dr=false:=by rfl)(a:b=true->plain rs=true:=by simp [plain,PD.plain])(e:dN s o:=by simp only [go_sem]):R C (.ops all (o::l)::k) s:=R.o7 h d H g i a e next
def _root_.Go.au.RY.kW{t:List Oper}(d:bg C.P f args rs)(H:o.op= .call ⟨.value (.func f),xs,T⟩)(g:o.guard=none)(i:iD C.P s.var s.row (xs.toList.map (aO s)) args b)
  (next:RY C all t k l (s.put o.dst (eX rs)))(h:C.dr=false:=by rfl)(a:b=true->plain rs=true:=by simp [plain,PD.plain])(e:dN s o:=by simp only [go_sem]):RY C all t k (o::l) s:=RY.o7 h d H g i a e next
abbrev way(w:W):PD:=.ak [ints w.pos,ints w.neg]
abbrev ways(l:List W):PD:=.list 2 (l.map way)
attribute [go_sem] ev xu ev1 KE ay DR Ju uV kM DN qh Nj Jv Jw bound tZ Nh DK eqV zC yu refs idx xE caps vU seqB LC oZ Jy BN aO yI qF SV.strip SV.unbox SV.kill SV.aK SV.dI er ty4 ty5 ty9 ase asf asg ash asi asj asl asn aso asq asr asu asv asw asx asy asz asA asB asC asD asE Tu Tw Tx Ty T0 T1 T2 T3 T4 S5 S6 S8 SD SF SJ SK SL SM SO Wl Wm Wo Wr Wt Ww Wz W0 W2 W4 W5 W6 W7 W8 WD WF WK WN WP Xs X1 X2 XN
attribute [go_sem] iW St.start St.bZ slotsOf after dQ.wrote List.filter_nil St.get St.put St.set St.setVar St.setRow St.newVar St.newRow St.dI lk up St.var St.row dN jS cxP cxV cxR cwP cwV cwR cwM UL cmV cmR cmW cmM caP caV caR caW caM cpP cpV
attribute [go_sem] cpR cgP cgV cgR cgW Yh cvV cvR ar9 asa asb Lm callee ER SV.took St.took oN less Dj rest keys St.of resV SV.within St.ren KF Hf St.lp JA PK PL PI SV.ren JD
attribute [go_sem] Gt Gu JB BR ND NG SV.good St.map gx or_false false_or or_true true_or fX decide_false gT Bool.or_true iN Bool.true_or Bool.or_self resD AA QK QM qG mX Mv PR PT SU sC
attribute [go_sem] Mw Q1 Q2 SZ Qf Qt Q0 sE Mx Q3 Q4 Ta PB w_I PC c_I PF s_I PQ sB Mu eX Op.operands Call.operands cx Nat.add_zero Nat.reduceAdd Nat.reduceSub Nat.reduceMul Nat.reduceEqDiff Nat.reduceLT Nat.reduceLeDiff Nat.reduceBEq Nat.reduceBNe reduceCtorEq a7 ba ia Option.getD_some Option.getD_none
attribute [go_sem] Option.map_some Option.map_none Option.bind_some Option.isSome_some Option.isSome_none eL gz and_self true_implies false_implies ne_eq lm i9 false_and and_false ap ax List.length_cons List.length_nil al List.take_succ_cons List.take_zero List.take_nil List.drop_succ_cons nc List.drop_nil List.nil_append List.cons_append el List.all_cons List.all_nil eB lx gc List.getElem?_cons_zero List.getElem?_cons_succ List.contains_nil cY Array.isEmpty_empty List.range_succ_eq_map
attribute [go_sem] List.isEmpty_nil Value.oneCell' Bool.and_self Bool.and_true eJ Bool.false_and nh bS cH beq_self_eq_true b6 Bool.true_eq_false Int.toNat_natCast Array.size_empty dp Function.comp implies_true Nat.not_lt_zero Nat.lt_irrefl a3 ii Int.natCast_nonneg Bool.not_not List.toList_toArray beq_true beq_false eq_self ip imp_self lf Bool.not_eq_false'
attribute [go_sem] Zk
attribute [go_sem] uE t9
attribute [go_sem] ag3
attribute [go_sem] Zg
attribute [go_sem] wz o5
attribute [go_sem] oB
attribute [go_sem] wN PW TQ yB
attribute [go_sem] u9
attribute [go_sem] E8
attribute [go_sem] JI
attribute [go_sem] Gy
attribute [go_sem] U1
attribute [go_sem] oe QY
attribute [go_sem] JL Yl QW
attribute [go_sem] Zj uC
attribute [go_sem] t8 sH
attribute [go_sem] JK
attribute [go_sem] NU
attribute [go_sem] Zf
attribute [go_sem] wj
attribute [go_sem] o4
attribute [go_sem] oA wD PU od Hu wT
attribute [go_sem] mixed mY TR wI o9 TS TT
attribute [go_sem] wF yA Zi kT uL sl35 LP oy U3
attribute [go_sem] LQ PX QX NW wG
attribute [go_sem] u7 zI Zl
attribute [go_sem] t7
attribute [go_sem] lX
attribute [go_sem] zq
attribute [go_sem] U0
attribute [go_sem] sz4
attribute [go_sem] sz5 o0
attribute [go_sem] o6
attribute [go_sem] wA oF Ht Zh NV tA zd3 zd4 oE
attribute [go_sem] NY wH uA
attribute [go_sem] Fa uB
attribute [go_sem] JJ
attribute [go_sem] Gz
attribute [go_sem] U2
attribute [go_sem] oi QZ
open Tryz in
attribute [go_sem] ntmps4 ntmps5 ntmps6 ntmps7 ntmps9 ntmps10 ntmps12 ntmps13 ntmps14 ntmps15 ntmps16 ntmps17 ntmps20 ntmps21 ntmps22 ntmps23 ntmps24 ntmps25 ntmps26 ntmps28 ntmps29 ntmps30 ntmps31 ntmps32 ntmps33 ntmps34 ntmps36 ntmps38 ntmps39 ntmps40 ntmps41 ntmps42 ntmps43 ntmps45 ntmps46 ntmps47 ntmps48 ntmps49 ntmps50 ntmps51 ntmps52 ntmps53 ntmps54 ntmps55 ntmps56 ntmps57 ntmps58 ntmps59 ntmps60 ntmps61 ntmps62 ntmps63 ntmps72 ntmps75 ntmps78 ntmps81 ntmps82 ntmps84 ntmps85 ntmps86 ntmps87 ntmps88 ntmps89 ntmps90 ntmps91 ntmps92 ntmps93 ntmps94 ntmps95 ntmps96 ntmps97 ntmps98 ntmps99 ntmps100 ntmps101 ntmps102 ntmps103 ntmps104 ntmps105 ntmps106 ntmps107 ntmps108 ntmps109 ntmps110 ntmps111 ntmps112 ntmps113 ntmps114 ntmps115 ntmps116 ntmps117 ntmps118 ntmps119 ntmps121 ntmps127 ntmps128 ntmps129 ntmps130 ntmps132 ntmps133 ntmps134 ntmps135 ntmps136 ntmps137 ntmps138 ntmps139 ntmps140 ntmps141 ntmps142 ntmps143 ntmps144 ntmps145 ntmps146 ntmps147 ntmps148 ntmps149 ntmps150 ntmps151 ntmps152 ntmps153 ntmps154 ntmps155 ntmps156 ntmps157 ntmps158 ntmps160 ntmps161 ntmps163 ntmps164 ntmps166 ntmps168 ntmps171 ntmps173 ntmps174 ntmps176 ntmps177 ntmps178 ntmps179 ntmps180 ntmps181 ntmps182 ntmps183 ntmps184 ntmps185 ntmps186 ntmps187 ntmps188 ntmps189 ntmps190 ntmps191 ntmps192 ntmps193 ntmps194 ntmps195 ntmps196 ntmps197 ntmps198 ntmps199 ntmps200 ntmps201 ntmps202 ntmps203 ntmps204 ntmps205 ntmps213 ntmps214 ntmps215 ntmps216 ntmps217 ntmps218 ntmps219 ntmps220 ntmps221 ntmps222 ntmps223 ntmps225 ntmps226 ntmps227 ntmps228 ntmps229 ntmps230 ntmps231 ntmps234 ntmps235 ntmps236 ntmps237 ntmps238 ntmps239 ntmps240 ntmps241 ntmps242 ntmps243 ntmps244 ntmps245 ntmps246 ntmps247 ntmps248 ntmps249 ntmps250 ntmps251 ntmps252 ntmps253 ntmps254 ntmps255 ntmps256 ntmps257 ntmps258 ntmps259 ntmps260 ntmps261 ntmps262 ntmps263 ntmps269 ntmps270 ntmps273 ntmps280 ntmps282 ntmps283 ntmps284 ntmps285 ntmps286 ntmps287 ntmps288 ntmps289 ntmps290 ntmps291 ntmps292 ntmps293 ntmps294 ntmps295 ntmps296 ntmps297 ntmps298 ntmps299 ntmps300 ntmps301 ntmps302 ntmps303 ntmps304 ntmps305 ntmps306 ntmps307 ntmps308 ntmps309 ntmps310 ntmps311 ntmps312 ntmps315 ntmps316 ntmps317 ntmps318 ntmps319 ntmps320 ntmps321 ntmps322 ntmps323 ntmps324 ntmps325 ntmps326 ntmps327 ntmps328 ntmps329 ntmps330 ntmps331 ntmps332 ntmps333 ntmps334 ntmps336 ntmps337 ntmps338 ntmps339 ntmps348 ntmps349 ntmps350 ntmps351 ntmps352 ntmps353 ntmps354 ntmps355 ntmps356 ntmps357 ntmps358 ntmps359 ntmps360 ntmps361 ntmps362 ntmps363 ntmps364 ntmps365 ntmps366 ntmps367 ntmps368 ntmps369 ntmps370 ntmps371 ntmps372 ntmps373 ntmps374 ntmps375 ntmps376 ntmps377 ntmps379 ntmps380 ntmps381 ntmps382 ntmps383 ntmps384 ntmps385 ntmps386 ntmps387 ntmps388 ntmps389 ntmps390 ntmps391 ntmps392 ntmps393 ntmps394 ntmps395 ntmps397 ntmps398 ntmps407 ntmps408 ntmps409 ntmps410 ntmps411 ntmps413 ntmps414 ntmps415 ntmps421 ntmps422 ntmps423 ntmps475 ntmps477 ntmps478 ntmps480
end Go.Proofs.Z
