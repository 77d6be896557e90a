/- A part of the proof. -/
import Derived.Tactics
import Derived.KernelRfl
set_option linter.all false
set_option linter.deprecated false
def zw{D P:Prop}{Q:D->Prop}(d:D)(q:Q d)(h:∀(d:D),Q d->P:=by intro d q;apply aj;simp only [go_sem,↓reduceIte,d];exact q):P:=h d q
def zz{D C P:Prop}{Q:D->C->Prop}(d:D)(c:C)(q:Q d c)(h:∀(d:D) (c:C),Q d c->P:=by intro d c q;apply aj;simp only [go_sem,↓reduceIte,d,c];exact q):P:=h d c q
def z5{D P:Prop}{Q:D->Prop}(d:D)(q:Q d)(h:∀(d:D),Q d->P:=by intro d q;apply ev8;simp only [go_sem,d];exact q):P:=h d q
def z6{Q P:Prop}(q:Q)(h:Q->P:=by intro q;refine bY 80 _ _ ?_;simp only [go_sem];exact q):P:=h q
def z7{D P:Prop}{Q:D->Prop}(d:D)(q:Q d)(h:∀(d:D),Q d->P:=by intro d q;apply aI;simp only [go_sem,getD_map,d];(repeat refine⟨by clear q;omega,?_⟩);exact q):P:=h d q
def z8{D C P:Prop}{Q:D->C->Prop}(d:D)(c:C)(q:Q d c)(h:∀(d:D) (c:C),Q d c->P:=by intro d c q;apply ev8;simp only [go_sem,getD_map,d,c];(repeat refine⟨by clear q;omega,?_⟩);exact q):P:=h d c q
def z9{D C B P:Prop}{Q:D->C->B->Prop}(d:D)(c:C)(b:B)(q:Q d c b)(h:∀(d:D) (c:C) (b:B),Q d c b->P:=by intro d c b q;apply aj;simp only [go_sem,↓reduceIte,getD_map,d,c,b];(repeat refine⟨by clear q;omega,?_⟩);exact q):P:=h d c b q
def qa{Q P:Prop}(q:Q)(h:Q->P:=by intro q;apply aj;simp only [go_sem];exact q):P:=h q
def qb{D C B P:Prop}{Q:D->C->B->Prop}(d:D)(c:C)(b:B)(q:Q d c b)(h:∀(d:D) (c:C) (b:B),Q d c b->P:=by intro d c b q;apply aj;simp only [go_sem,↓reduceIte,d,c,b];exact q):P:=h d c b q
def qd{D C B A P:Prop}{Q:D->C->B->A->Prop}(d:D)(c:C)(b:B)(a:A)(q:Q d c b a)(h:∀(d:D) (c:C) (b:B) (a:A),Q d c b a->P:=by intro d c b a q;apply aj;simp only [go_sem,↓reduceIte,getD_map,d,c,b,a];(repeat refine⟨by clear q;omega,?_⟩);exact q):P:=h d c b a q
def qe{D P:Prop}{Q:D->Prop}(d:D)(q:Q d)(h:∀(d:D),Q d->P:=by intro d q;apply ev8;simp only [go_sem,getD_map,d];(repeat refine⟨by clear q;omega,?_⟩);exact q):P:=h d q
def qf{D P:Prop}{Q:D->Prop}(d:D)(q:Q d)(h:∀(d:D),Q d->P:=by intro d q;apply ev8;simp only [go_sem,getD_map,d];exact q):P:=h d q
def qi{Q P:Prop}(q:Q)(h:Q->P:=by intro q;refine bY 60 _ _ ?_;simp only [go_sem];exact q):P:=h q
def qk{p:Prop}(h:p:=by omega):p:=h
def qn{p:Prop}(h:p:=by(simp only [go_sem])):p:=h
def qq{p:Prop}(h:p:=by kernel_rfl):p:=h
def qr{p:Prop}(h:p:=by simp):p:=h
def qt{p:Prop}(h:p:=by constructor<;>first|kernel_rfl|(intro;kernel_rfl)|(constructor<;>first|kernel_rfl|(intro;kernel_rfl)|(constructor<;>first|kernel_rfl|(intro;kernel_rfl)|(constructor<;>first|kernel_rfl|(intro;kernel_rfl))))):p:=h
def qu{p:Prop}(h:p:=by decide):p:=h
def qv{p:Prop}(h:p:=by decide+kernel):p:=h
def qz{p:Prop}(h:p:=by simp;omega):p:=h
def q4{p:Prop}(h:p:=by(simp only [go_sem]);all_goals(and_intros<;>rfl)):p:=h
def q5{p:Prop}(h:p:=by and_intros<;>kernel_rfl):p:=h
def q6{p:Prop}(h:p:=by simp only;omega):p:=h
def q7{p:Prop}(h:p:=by(simp only [go_sem]);all_goals(and_intros<;>first|rfl|exact yS λv hv=>by(simp only [lk];(repeat rw [ae (by omega)]);exact iP hv))):p:=h
def q8{p:Prop}(h:p:=by rw [wrap64 (by omega) (by omega)];omega):p:=h
def q9{p:Prop}(h:p:=by simp [St.map,lk]):p:=h
def xa{p:Prop}(h:p:=by cases h):p:=h
def xb{p:Prop}(h:p:=by simp only [go_sem]):p:=h
def xc{p:Prop}(h:p:=by simp [lk]at h):p:=h
def xd{p:Prop}(h:p:=by simp [bR]):p:=h
def xe{p:Prop}(h:p:=by simpa [maxLen]using hl):p:=h
def xf{p:Prop}(h:p:=by(simp only [go_sem]);try rfl):p:=h
def xh{p:Prop}(h:p:=by(simp only [lk];(repeat rw [ae (by omega)]);exact iP hv)):p:=h
def xi{p:Prop}(h:p:=by rw [hget];exact((jk t).rel (E:=E) rfl (row:=λ_=>none)).2 cs):p:=h
def xj{p:Prop}(h:p:=by(simp only [go_sem,hsn]);all_goals(and_intros<;>first|rfl)):p:=h
def xl{p:Prop}(h:p:=by(simp only [go_sem]);all_goals(and_intros<;>first|rfl)):p:=h
def xm{p:Prop}(h:p:=by(simp only [go_sem,e1,e2,e3,f1,f2,hz,e4,e5,e6,e7,g0,g4,g5,g6,g7]);all_goals(and_intros<;>first|rfl)):p:=h
def xp{p:Prop}(h:p:=by rfl):p:=h
def xr{p:Prop}(h:p:=by(simp only [go_sem,hs]);all_goals(and_intros<;>first|rfl)):p:=h
def xt{p:Prop}(h:p:=by simp only [al]at hi;simp only [getD_map,hi];rfl):p:=h
def xv{p:Prop}(h:p:=by show(pR aa 144).isSome=true;rw [mY];rfl):p:=h
def xx{p:Prop}(h:p:=by rw [hD];rfl):p:=h
def xy{p:Prop}(h:p:=by simp at h):p:=h
def xz{p:Prop}(h:p:=by rw [hks];simp):p:=h
def x4{p:Prop}(h:p:=by(simp only [go_sem,e1,e2,e4,e5,e6,hz]);all_goals(and_intros<;>first|rfl)):p:=h
def x6{p:Prop}(h:p:=by intros;simp):p:=h
def x8{p:Prop}(h:p:=by rw [bp.1 hq];exact⟨rfl,rfl⟩):p:=h
def kb{p:Prop}(h:p:=by simp [maxLen];omega):p:=h
def kc{p:Prop}(h:p:=by have:=Rd.oneCell h;cases v<;>simp_all [pA,eb]):p:=h
def kd{p:Prop}(h:p:=by(subst hz0;show _<_;simp<;>omega)):p:=h
def ke{p:Prop}(h:p:=by simp [plain,PD.plain]):p:=h
def kf{p:Prop}(h:p:=by assumption):p:=h
def kg{p:Prop}(h:p:=by rw [wrap64 (by omega) (by omega)];simp):p:=h
def kh{p:Prop}(h:p:=by(simp only [go_sem,hsn,bl]);all_goals(and_intros<;>first|rfl)):p:=h
def kj{p:Prop}(h:p:=by simp only [maxLen,al,an,a9];omega):p:=h
def kl{p:Prop}(h:p:=by rw [wrap64 (by omega) (by omega)];rfl):p:=h
def km{p:Prop}(h:p:=by simp [St.map,lk,e1]):p:=h
def ko{p:Prop}(h:p:=by simp only [St.row,lk];(repeat rw [ae (by omega)]);exact iP hxn):p:=h
def kp{p:Prop}(h:p:=by simp [ho,bR,di]):p:=h
def kq{p:Prop}(h:p:=by show _*iQ aa 3<=_;rw [Gy];simp only [al,an,a9];omega):p:=h
def kw{p:Prop}(h:p:=by simp [PD.width]):p:=h
def ky{p:Prop}(h:p:=by rw [hget];exact((jk t).rel rfl).1):p:=h
def kz{p:Prop}(h:p:=by simp [ho,bR,di];right;simpa using hx):p:=h
def k9{p:Prop}(h:p:=by simp [St.row,St.bZ,lk]at h):p:=h
def ja{p:Prop}(h:p:=by simp [St.var,St.bZ,lk]at h):p:=h
def jb{p:Prop}(h:p:=by rw [hr0]at hp;cases hp):p:=h
def jn{p:Prop}(h:p:=by show _*iQ aa 225<=_;rw [JI];simp;omega):p:=h
def jp{p:Prop}(h:p:=by unfold dG;rw [ae (by omega),hks];simp [hkd]):p:=h
def js{p:Prop}(h:p:=by show _<(av g.n (0:Int)).length;rw [hlen];exact this.2):p:=h
def jt{p:Prop}(h:p:=by simp only [io,pu];show _=fn.ntmps;omega):p:=h
def ju{p:Prop}(h:p:=by refine hL'.trans ?_;exact eQ _ (by simpa using hp)):p:=h
def jx{p:Prop}(h:p:=by simp [lk]):p:=h
def jz{p:Prop}(h:p:=by show _=some (Row.mk 3 1 ((av _ 0).map I));rw [my]):p:=h
def j4{p:Prop}(h:p:=by simp at h;omega):p:=h
def j5{p:Prop}(h:p:=by simp [hj]):p:=h
def j6{p:Prop}(h:p:=by rw [hid]at hp;cases hp):p:=h
def j7{p:Prop}(h:p:=by simp [h2]):p:=h
def j8{p:Prop}(h:p:=by simp only [go_sem,I];rfl):p:=h
def j9{p:Prop}(h:p:=by rw [<-h _ (by simp [ho,bR,di])];exact ht):p:=h
def va{p:Prop}(h:p:=by show _<_;omega):p:=h
def vd{p:Prop}(h:p:=by simp [St.row,St.start,lk]at h):p:=h
def ve{p:Prop}(h:p:=by simp [St.var,St.start,lk]at h):p:=h
def vf{p:Prop}(h:p:=by simpa [aL,ag]using hok i hi):p:=h
def vh{p:Prop}(h:p:=by first|exact hcl (by omega)|simpa using hf):p:=h
def vi{p:Prop}(h:p:=by obtain rfl:=ii.1 hi;rfl):p:=h
def vj{p:Prop}(h:p:=by show _<_;simp;omega):p:=h
def vl{p:Prop}(h:p:=by cases h;exact .inl (a3 _)):p:=h
def vm{p:Prop}(h:p:=by simp [ag,dl (fw ht)]):p:=h
def vn{p:Prop}(h:p:=by simp [St.row,St.of,lk]at h):p:=h
def vo{p:Prop}(h:p:=by simp [St.var,St.of,lk]at h):p:=h
def vp{p:Prop}(h:p:=by simp [sH,lX]):p:=h
def vq{p:Prop}(h:p:=by simp at hj):p:=h
def vt{p:Prop}(h:p:=by simp [cZ]):p:=h
def vu{p:Prop}(h:p:=by simp [qF,bR,di,aO,St.get,lk,SV.unbox]):p:=h
def vz{p:Prop}(h:p:=by simp at ht;subst ht;rfl):p:=h
def v4{p:Prop}(h:p:=by simpa [maxLen]using hl2):p:=h
def v8{p:Prop}(h:p:=by simp only [eh,ne_eq];omega):p:=h
def v9{p:Prop}(h:p:=by simp [St.map,lk,e1,e5]):p:=h
def wc{p:Prop}(h:p:=by simp only [bd,an,a9,pv];omega):p:=h
def wd{p:Prop}(h:p:=by simp [eU]):p:=h
def wg{p:Prop}(h:p:=by rw [hd]at ht;cases ht;exact hn):p:=h
def wh{p:Prop}(h:p:=by simp at hi):p:=h
def wl{p:Prop}(h:p:=by rw [sz,sz];exact l2):p:=h
def wt{p:Prop}(h:p:=by simp only [Pl.dep]at hn;omega):p:=h
def wv{p:Prop}(h:p:=by unfold maxLen;omega):p:=h
def ww{p:Prop}(h:p:=by rw [PD.bD];exact hj):p:=h
def wx{p:Prop}(h:p:=by(simp only [go_sem]);try simp):p:=h
def wy{p:Prop}(h:p:=by rw [hsz];exact hnl):p:=h
def w7{p:Prop}(h:p:=by have:=g.gw _ _ hn;omega):p:=h
def w8{p:Prop}(h:p:=by have:=g.gw _ _ ho;omega):p:=h
def w9{p:Prop}(h:p:=by simp only [maxLen,al];omega):p:=h
def ya{p:Prop}(h:p:=by simpa [jS]using h):p:=h
def yb{p:Prop}(h:p:=by rw [sz];exact ha0):p:=h
def yd{p:Prop}(h:p:=by(simp only [go_sem,St.pure])):p:=h
def ye{p:Prop}(h:p:=by rw [<-eo];exact c9 _ hk):p:=h
def yf{p:Prop}(h:p:=by rw [hdr]at h;cases h):p:=h
def yi{p:Prop}(h:p:=by simp [St.map,St.of,lk]at h):p:=h
def yk{p:Prop}(h:p:=by simp [jD,hk,hq]):p:=h
def yl{p:Prop}(h:p:=by rw [g.size];exact ht):p:=h
def ym{p:Prop}(h:p:=by simp [hi]):p:=h
def yn{p:Prop}(h:p:=by rw [<-e];exact hc):p:=h
def yo{p:Prop}(h:p:=by simp [hlt]):p:=h
def yp{p:Prop}(h:p:=by simp [h1]):p:=h
def yq{p:Prop}(h:p:=by rw [hk];rfl):p:=h
def yr{p:Prop}(h:p:=by rw [BK];decide):p:=h
def yv{p:Prop}(h:p:=by simp [St.map,lk,e4]):p:=h
def yy{p:Prop}(h:p:=by simpa [fF]using c2):p:=h
def yz{p:Prop}(h:p:=by show k+1<=_;omega):p:=h
def y3{p:Prop}(h:p:=by simp [cP,hb]):p:=h
def y4{p:Prop}(h:p:=by simp [Hu,Ht]):p:=h
def y6{p:Prop}(h:p:=by simpa [fF]using fw c2):p:=h
def ua{p:Prop}(h:p:=by rw [A.size];exact hlt):p:=h
def ub{p:Prop}(h:p:=by simp [hx]):p:=h
def uc{p:Prop}(h:p:=by simp only [pv];omega):p:=h
def ud{p:Prop}(h:p:=by simp [Act.put]):p:=h
def ue{p:Prop}(h:p:=by simp [eU,cZ]):p:=h
def ui{p:Prop}(h:p:=by show 0<=_;omega):p:=h
def uk{p:Prop}(h:p:=by rw [<-ka,hx];simp):p:=h
def ul{p:Prop}(h:p:=by simp [St.dR,hb.gs,lk]):p:=h
def un{p:Prop}(h:p:=by simp [execOp,h1]):p:=h
def ur{p:Prop}(h:p:=by intros;omega):p:=h
def ut{p:Prop}(h:p:=by simp [ag,hi]):p:=h
def uu{p q:Prop}(h:p)(k:p->q:=by intro h;simpa using h):q:=k h
abbrev am:=@List.getElem_mem
abbrev bh:=@List.take_succ_eq_append_getElem
abbrev ag:=@List.getD_eq_getElem?_getD
abbrev ae:=@if_neg
abbrev af:=@if_pos
abbrev aL:=@Array.getD_eq_getD_getElem?
abbrev al:=@List.length_map
abbrev bi:=@List.take_of_length_le
abbrev aq:=@List.mem_map
abbrev bm:=@Array.getElem?_eq_some_iff
abbrev ap:=@List.map_cons
abbrev bd:=@List.length_append
abbrev aM:=@List.all_eq_true
abbrev ax:=@List.map_nil
abbrev bp:=@List.mem_singleton
abbrev bk:=@List.mem_cons_self
abbrev a3:=@Nat.le_refl
abbrev bN:=@List.getElem_of_mem
abbrev b7:=@decide_eq_false
abbrev ca:=@List.getElem?_eq_getElem
abbrev cv:=@List.getElem?_append_left
abbrev bo:=@Option.some.injEq
abbrev bj:=@Bool.and_eq_true
abbrev b3:=@List.mem_cons_of_mem
abbrev bl:=@List.map_append
abbrev b6:=@Bool.false_eq_true
abbrev b8:=@List.mem_cons
abbrev ba:=@if_false
abbrev b9:=@List.cons.injEq
abbrev a7:=@if_true
abbrev cB:=@List.pairwise_iff_getElem
abbrev bz:=@Nat.le_trans
abbrev cz:=@List.length_eq_one_iff
abbrev c9:=@Nat.mul_le_mul_right
abbrev dj:=@List.getElem?_append_right
abbrev c8:=@List.map_congr_left
abbrev cj:=@Nat.lt_of_lt_of_le
abbrev cC:=@List.drop_eq_nil_of_le
abbrev dl:=@List.getElem?_eq_none
abbrev bL:=@decide_eq_true
abbrev cc:=@List.length_set
abbrev cd:=@List.mem_range
abbrev bS:=@Bool.not_true
abbrev dm:=@Option.isSome_iff_exists
abbrev cK:=@List.take_append_drop
abbrev cA:=@List.map_toArray
abbrev cD:=@List.append_assoc
abbrev cE:=@decide_eq_true_eq
abbrev cw:=@List.mem_append
abbrev cT:=@List.forall_mem_cons
abbrev d8:=@List.length_eq_zero_iff
abbrev cp:=@getElem!_pos
abbrev cU:=@List.getElem?_map
abbrev cx:=@Nat.zero_add
abbrev cG:=@List.mem_filter
abbrev dp:=@List.size_toArray
abbrev dq:=@List.nodup_append
abbrev fw:=@Nat.le_of_not_lt
abbrev eN:=@Array.getElem?_append_left
abbrev cH:=@Bool.not_false
abbrev du:=@Bool.or_eq_true
abbrev cy:=@beq_iff_eq
abbrev cn:=@Nat.lt_or_ge
abbrev cY:=@List.contains_cons
abbrev eh:=@beq_eq_false_iff_ne
abbrev eQ:=@List.Perm.flatMap_right
abbrev cI:=@List.filter_cons
abbrev cJ:=@List.ext_getElem
abbrev bt:=@Ne.symm
abbrev cr:=@List.map_map
abbrev dz:=@Prod.mk.injEq
abbrev ei:=@List.getElem_map
abbrev dC:=@List.mem_flatMap
abbrev eg:=@List.pairwise_map
abbrev ej:=@List.pairwise_cons
abbrev eB:=@List.getD_cons_zero
abbrev eC:=@List.flatten_append
abbrev dE:=@List.nodup_cons
abbrev eR:=@List.mem_append_left
abbrev eD:=@List.getElem?_take
abbrev ff:=@Array.getElem?_toList
abbrev fg:=@Array.getElem?_modify
abbrev fh:=@List.length_replicate
abbrev cQ:=@Nat.mul_one
abbrev je:=@Array.getInternal_eq_getElem
abbrev pu:=@Array.size_replicate
abbrev g8:=@List.getElem?_set_ne
abbrev ie:=@List.getElem?_replicate
abbrev fz:=@List.range_succ
abbrev gc:=@List.getElem?_toArray
abbrev ii:=@Nat.lt_one_iff
abbrev jN:=@List.findIdx?_eq_some_iff_getElem
abbrev ka:=@Array.mem_toList_iff
abbrev eJ:=@Bool.true_and
abbrev fI:=@List.flatMap_cons
abbrev fL:=@List.push_toArray
abbrev fN:=@of_decide_eq_true
abbrev gh:=@List.filter_eq_self
abbrev ij:=@List.drop_eq_getElem_cons
abbrev fk:=@List.any_append
abbrev g9:=@List.mem_append_right
abbrev gA:=@List.length_mergeSort
abbrev gC:=@List.length_filter_le
abbrev gD:=@List.Perm.append_left
abbrev kk:=@List.eq_nil_of_length_eq_zero
abbrev d6:=@Array.ext
abbrev gj:=@Nat.eq_zero_or_pos
abbrev ik:=@List.getElem_append_left
abbrev eV:=@List.filter_append
abbrev db:=@Nat.zero_le
abbrev el:=@List.append_nil
abbrev eo:=@Nat.succ_mul
abbrev eW:=@List.any_eq_false
abbrev im:=@Array.getElem?_setIfInBounds_ne
abbrev fR:=@Array.replicate_succ
abbrev d7:=@Nat.add_mul
abbrev fa:=@List.length_drop
abbrev fb:=@List.length_take
abbrev fT:=@List.append_toArray
abbrev io:=@Array.size_append
abbrev fm:=@List.all_eq_false
abbrev et:=@Nat.add_assoc
abbrev ip:=@Array.empty_append
abbrev ir:=@Array.ext_getElem?
abbrev gk:=@List.any_eq_true
abbrev dc:=@dif_pos
abbrev iv:=@List.countP_le_length
abbrev my:=@List.map_replicate
abbrev kv:=@List.getElem?_eq_some_iff
abbrev k4:=@List.mem_or_eq_of_mem_set
abbrev gm:=@Option.some.inj
abbrev gn:=@List.all_append
abbrev gO:=@List.length_range
abbrev iz:=@Int.toNat_of_nonneg
abbrev gP:=@List.countP_cons
abbrev gR:=@List.flatMap_append
abbrev k7:=@List.foldl_append
abbrev p5:=@List.mem_zipIdx_iff_getElem?
abbrev gS:=@List.map_set
abbrev m1:=@List.contains_iff_mem
abbrev m4:=@List.countP_eq_length
abbrev p7:=@Array.getElem?_append_right
abbrev m5:=@decide_eq_false_iff_not
abbrev ew:=@dif_neg
abbrev gT:=@Bool.or_false
abbrev kA:=@List.getElem?_drop
abbrev kB:=@List.countP_append
abbrev lc:=@Nat.add_sub_cancel
abbrev m6:=@Option.map_eq_some_iff
abbrev lf:=@Bool.not_eq_true'
abbrev lh:=@bne_self_eq_false
abbrev li:=@List.getElem_take
abbrev lj:=@List.getElem_drop
abbrev ll:=@Nat.lt_trichotomy
abbrev lm:=@not_true_eq_false
abbrev i9:=@not_false_eq_true
abbrev m7:=@Array.getElem?_eq_getElem
abbrev lv:=@List.mem_of_mem_take
abbrev lw:=@Bool.or_eq_false_iff
abbrev fX:=@decide_true
abbrev m8:=@Array.size_setIfInBounds
abbrev eL:=@true_and
abbrev lx:=@List.getD_cons_succ
abbrev pD:=@List.getElem?_set_self
abbrev pE:=@Array.getElem?_eq_none
abbrev AI:=@Array.setIfInBounds_setIfInBounds
abbrev pG:=@List.getElem_append_right
abbrev iB:=@Nat.mul_comm
abbrev mB:=@List.mem_filterMap
abbrev mE:=@Array.append_empty
abbrev l6:=@List.mapM_cons
abbrev hZ:=@Array.ext'
abbrev pL:=@Option.bind_eq_some_iff
abbrev mH:=@List.mapM_toArray
abbrev mI:=@List.ext_getElem?
abbrev AN:=@List.set_eq_take_append_cons_drop
abbrev gv:=@Nat.not_lt
abbrev lA:=@Nat.le_add_right
abbrev mN:=@Nat.eq_of_testBit_eq
abbrev mS:=@List.mem_of_getElem?
abbrev lB:=@List.perm_middle
abbrev pM:=@Array.toList_setIfInBounds
abbrev iN:=@Bool.false_or
abbrev mT:=@List.length_pos_iff
abbrev pN:=@List.findIdx?_eq_none_iff
abbrev pP:=@Nat.le_succ_of_le
abbrev pQ:=@Array.toList_filter
abbrev pS:=@List.filter_sublist
abbrev pZ:=@List.forall_mem_nil
abbrev nc:=@List.drop_zero
abbrev nf:=@Nat.testBit_or
abbrev gx:=@or_self
abbrev ia:=@ite_self
abbrev nh:=@Bool.and_false
abbrev nj:=@Nat.mul_le_mul
abbrev qD:=@Nat.pos_of_ne_zero
abbrev qS:=@List.append_of_mem
abbrev qT:=@List.zipIdx_append
abbrev nl:=@List.mem_toArray
abbrev gz:=@and_true
abbrev nm:=@List.getElem_set
abbrev rf:=@List.set_append_right
abbrev rg:=@List.eq_nil_or_concat
abbrev lO:=@Nat.add_comm
abbrev iX:=@bne_iff_ne
abbrev Be:=@Array.getElem_setIfInBounds_ne
abbrev Bk:=@List.eq_nil_iff_length_eq_zero
abbrev Bm:=@List.eq_nil_iff_forall_not_mem
abbrev nq:=@Nat.min_eq_left
abbrev Bn:=@List.take_append_of_le_length
abbrev ri:=@Nat.testBit_two_pow
abbrev rj:=@List.countP_eq_zero
abbrev rn:=@List.take_length
abbrev nt:=@Nat.sub_self
abbrev rp:=@List.flatMap_nil
namespace Go.au
inductive PD where
 |raw (v:Value)
 |list (sz:Nat) (ds:List PD)
 |ak (ds:List PD)
 |clo (f:FuncId) (ds:List PD)
 |mp (ks:List Value) (ds:List PD)
 |ptr (d:PD)
 |unk
def aP(P:Program)(t:TypeId):Nat:=((P.info? t).map (·.size)).getD 0
def bT(P:Program)(t:TypeId):Bool:=match P.underlying t with|some (.struct _)|some (.array _ _)=>true|_=>false
def iQ(P:Program)(t:TypeId):Nat:=((P.info? t).map (·.bytes)).getD 0
def eu(P:Program)(t:TypeId):Option TypeId:=match P.underlying t with|some (.slice e)=>some e|_=>none
def arT(P:Program)(t:TypeId):Option Nat:=match P.underlying t with|some (.array n e)=>if aP P e=1 then some n else none|_=>none
def Eu(P:Program)(t:TypeId):Bool:=match P.underlying t with|some .string=>true|_=>false
def boT(P:Program)(t:TypeId):Bool:=match P.underlying t with|some .bool=>true|_=>false
def Ew(P:Program)(t:TypeId):Option IntKind:=match P.underlying t with|some (.int k)=>some k|_=>none
def XR(P:Program)(t:TypeId):Bool:=match P.underlying t with|some (.pointer _)=>true|_=>false
def ifT(P:Program)(t:TypeId):Bool:=match P.underlying t with|some (.interface _)=>true|none=>true|_=>false
def aQ(P:Program)(t:TypeId):Bool:=(P.underlying t).isSome
def aX(P:Program)(t:TypeId)(f:Nat):Option (Nat×TypeId):=match P.underlying t with|some (.struct s)=>(s[f]?).map λf=>(f.offset,f.type)|_=>none
def bG(P:Program)(t:TypeId):Option (List Value):=((P.info? t).bind (·.zero)).map λz=>z.cells.toList
def jw(P:Program)(t:TypeId):Bool:=match P.underlying t with|some (.struct s)=>s.toList.all λf=>aP P f.type !=0|_=>false
def pR(P:Program)(t:TypeId):Option (TypeId×TypeDesc×TypeId):=match P.underlying t with
 |some (.map k e)=>match P.underlying k with
  |some (.int i)=>some (k,.int i,e)
  |some .string=>some (k,.string,e)
  |_=>none
 |_=>none
def Ey(P:Program)(t:TypeId):Option PD:=match(P.info? t).bind (·.zero)with
 |some (.agg C)=>if C.toList.all Value.oneCell' then some (.ak (C.toList.map .raw))else none
 |some v=>if v.oneCell' then some (.raw v)else none
 |none=>none
def fM:TypeDesc->Nat
 | .int _=>0
 | .string=>1
 | .bool=>2
 |_=>3
def eqT(P:Program)(t:TypeId):Option (List Nat):=match P.underlying t with
 |some (.struct s)=>if !P.stoodInHeld t && !P.eqGuardType P.depth t&&s.toList.zipIdx.all λp=>p.1.name != "_" && p.1.offset==p.2&&(match P.underlying p.1.type with|some d=>fM d !=3|_=>false)
  then some (s.toList.map λf=>match P.underlying f.type with|some d=>fM d|_=>3)else none
 |_=>none
end Go.au
