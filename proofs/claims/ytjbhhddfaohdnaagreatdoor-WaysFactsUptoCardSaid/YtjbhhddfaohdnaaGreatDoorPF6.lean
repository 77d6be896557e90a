/- WaysFacts of cleanselaw34 returns true for every schema, query and facts whose bulk is at most 1048576, and each argument reads afterwards as before. Conditions: that bound, that the arguments can be read, and those of the given card, which ties the tables uint64pow10, deBruijn32tab and deBruijn64tab to the text of the program. -/
import Derived.Test.YtjbhhddfaohdnaaGreatDoorPC6f
import Derived.Test.YtjbhhddfaohdnaaGreatDoorPHe
set_option linter.all false
set_option linter.deprecated false
open Go.Proofs.Tryz renaming f6→anl,prog→aai,func6→axp,checked→aur
open Int renaming reduceEq→aga
open List renaming length_reverse→arY,getElem_reverse→axq,length→af0,length_cons→afM,length_nil→agq,zip_cons_cons→aqS,zip_nil_left→auE,contains_nil→aqZ,nil_append→agU
open Nat renaming reduceAdd→apZ
open Option renaming getD_some→agd,map→aiA
section
namespace Go.Proofs.YtjbhhddfaohdnaaGreatDoor
open Go.Proofs.Z
open Go Go.Proofs Go.au Go.ChangeShapes Go.WideShapes Go.ChangeAt Go.RowKit
set_option maxRecDepth 100000
theorem ajo:Tryz.pinned.checked.prog.funcNamed Rows.waysFactsUptoRow.func=some 6:=by kernel_rfl
theorem amg:anl.isInstance Tryz.pinned.checked.prog Rows.waysFactsUptoRow.origin Rows.waysFactsUptoRow.targs:=apz (by kernel_rfl)
theorem amh:anl.isWrapper Tryz.pinned.checked.prog Rows.waysFactsUptoRow.wrapper Rows.waysFactsUptoRow.mainSum:=by
 unfold Func.isWrapper; first | (rw [adA (by decide +kernel)]; kernel_rfl) | (rw [adt (by decide +kernel)]; exact ⟨rfl,rfl⟩)
theorem wf6:Rows.waysFactsUptoRow.wfByText (Rows.OpenSpec.upto Rows.waysFactsSpec)=true:=by kernel_rfl
theorem ami:Tryz.pinned.checked.prog.mainIs=some (true, "709db9b42c92547ff3b5c10c67a9418b50c1e69aa11f060e795aed9d8aa4409e".toList):=by kernel_rfl
theorem amj:false=Rows.waysFactsUptoRow.goesBy Tryz.pinned.checked.prog:=by kernel_rfl
theorem ajp (f:FuncId) (fn:Func) (hf:Tryz.pinned.checked.prog.funcNamed "cleanse/cleanselaw34.WaysFacts" = some f) (hfn:Tryz.pinned.checked.prog.funcs[f]? = some fn):
  true=Tryz.pinned.checked.prog.looks []∧∀ (j:Nat) t,fn.params[j]? = some t→Tryz.pinned.checked.prog.wantsStandIn t=false:=by
 obtain rfl:f=6:=aso ((show aai.funcNamed "cleanse/cleanselaw34.WaysFacts" = some 6 by kernel_rfl).symm.trans hf) |>.symm
 obtain rfl:fn=anl:=(aso (axp.symm.trans hfn)).symm
 refine ⟨by kernel_rfl,fun j t ht=>?_⟩
 rw [Tryz.params6] at ht
 have hm:t∈[24,30,31]:=by simpa using Array.mem_of_getElem? ht
 have hall:([24,30,31].all fun u=>!Tryz.prog.wantsStandIn u)=true:=by kernel_rfl
 exact (show aai.wantsStandIn t=false by simpa using afX.1 hall t hm)
theorem Dy {w:World} {G:Pub} {c:Array Value} {ds:List PD} (hs:c.size=ds.length) (h:∀ j,j<ds.length→Rd w G ((Value.agg c).cells.toList.getD j undef) ((PD.ak ds).cell j)):aN w G (.agg c) (.ak ds):=
 ⟨c,rfl,hs,fun j hj=>by
  have:=h j hj
  have e:(Value.agg c).cells.toList.getD j undef=c.getD j undef:=by
   show c.toList.getD j undef=_
   simp [aax,adr]
  rwa [e] at this⟩
abbrev Ql:Array Value:=#[.agg #[.slice none 0 0],.agg #[.int .i64 0,.int .i64 0,.slice none 0 0,.slice none 0 0,.slice none 0 0,.int .i64 0,.int .i64 0,.slice none 0 0],.slice none 0 0]
section
variable (tJ:∀ (tl:List bH) (p:Plan) (fs:List bF),(∀ t∈tl,yB t∧t.attrs.length≤100000000)→mZ p→aT aai 6 [.pd (schema tl),.pd (plan p),.pd (eY fs)] [B true])
include tJ
theorem aaq (H:Type) (enc:TypeId × Value→H) (W:World) (base:Nat) (args:Array Value) (ds gs:List (DataW H)) (before:List MemPlace)
  (hval:∀ (j:Nat) t v,anl.params[j]? = some t→args[j]? = some v→Value.okWide aai W .any base t v)
  (hW:DataW.Whole enc aai anl.params.toList Rows.waysFactsSpec.vars false W args.toList ds gs before) (hk:Rows.uptoBulkAll (ds++gs)≤1048576) (hL:laidMetH aai Rows.waysFactsUptoRow.laid W):
  Calls aai 6 args W fun e W'=>∃ v,e = .returned v∧Rows.waysFactsSpec.post enc aai anl false true false false W args v W':=by
 have hW':=hW
 obtain ⟨p,q,hA0,hV,rfl,hfz,hnd⟩:=hW
 have hA:DataW.TrodAll enc aai W 0 (fun _=>true) true anl.params.toList args.toList ds p:=hA0
 rw [Tryz.params6] at hA hval
 obtain ⟨v0,vs0,d0,ds0,p0,q0,hargs,rfl,rfl,h0,r0⟩:=trodAll_cons hA
 obtain ⟨v1,vs1,d1,ds1,p1,q1,rfl,rfl,rfl,h1,r1⟩:=trodAll_cons r0
 obtain ⟨v2,vs2,d2,ds2,p2,q2,rfl,rfl,rfl,h2,r2⟩:=trodAll_cons r1
 obtain ⟨rfl,rfl,rfl⟩:=trodAll_nil r2
 obtain rfl:args = #[v0,v1,v2]:=by cases args; simp_all
 obtain ⟨rfl,rfl⟩:=trodVars_none hV
 obtain ⟨c0,rfl,s0⟩:=okWide_struct Tryz.underlying24 (hval 0 24 v0 rfl rfl)
 obtain ⟨c1,rfl,s1⟩:=okWide_struct Tryz.underlying30 (hval 1 30 v1 rfl rfl)
 obtain ⟨a2,len2,cap2,rfl⟩:=okWide_slice Tryz.underlying31 (hval 2 31 v2 rfl rfl)
 have lt0:∀ x∈p0,x.block<W.heap.size:=by obtain ⟨m,hm⟩:=h0; exact DataW.trod_lt m _ _ _ hm
 have lt1:∀ x∈p1,x.block<W.heap.size:=by obtain ⟨m,hm⟩:=h1; exact DataW.trod_lt m _ _ _ hm
 have lt2:∀ x∈p2,x.block<W.heap.size:=by obtain ⟨m,hm⟩:=h2; exact DataW.trod_lt m _ _ _ hm
 have k0:=h0
 have k1:=h1
 have k2:=h2
 simp only [ao3,Rows.uptoBulkAll] at hk
 obtain ⟨f0,h0⟩:=h0
 obtain ⟨f1,h1⟩:=h1
 obtain ⟨f2,h2⟩:=h2
 obtain ⟨tl,_,htl,e0⟩:=(KW f0).2 f0 (aew _) _ _ h0 (by show Rows.uptoBulk d0≤_; omega)
 obtain ⟨pl,_,hpl,e1⟩:=(Jy f1).2 f1 (aew _) _ _ h1 (by show Rows.uptoBulk d1≤_; omega)
 obtain ⟨fs,_,hfs,e2⟩:=(RX f2).2 f2 (aew _) _ _ h2 (by show Rows.uptoBulk d2≤_; omega)
 have e2:=e2 0 (by decide)
 have hgood:=F6 (show laidMetH aai KJ W from hL)
 have r0:aN W (Pub.heap W) (.agg c0) (schema tl):=Dy (by rw [s0,ab1]; rfl) e0
 have r1:aN W (Pub.heap W) (.agg c1) (plan pl):=by
  rw [aJ] at e1 ⊢
  exact Dy (by rw [s1,Xk]; rfl) e1
 clear hA0
 refine ((tJ tl pl fs htl.2 hpl).2 W (Pub.heap W) _ hgood rfl (fun i hi=>?_)).mono fun e W' ⟨v,he,hv,bel⟩=>?_
 ·match i,hi with
  | 0,_=>exact r0
  | 1,_=>exact r1
  | 2,_=>exact e2
 ·subst he
  have hv:v = .bool true:=aN.aK hv
  subst hv
  exact ⟨_,rfl,_,_,_,[],_,[],hW',trodAll_mk1 (shut_bool Tryz.underlying4 _),(trodAll_cons_mk (Below.trod laidOut (by kernel_rfl) (apz (by kernel_rfl)) k0 bel lt0) (trodAll_cons_mk (Below.trod laidOut (by kernel_rfl) (apz (by kernel_rfl)) k1 bel lt1) (trodAll_cons_mk (Below.trod laidOut (by kernel_rfl) (apz (by kernel_rfl)) k2 bel lt2) trodAll_mk0))),rfl,bel.frame _,fun h=>by cases h⟩
omit tJ in
theorem laid_met6 (os:Os):laidMet aai Rows.waysFactsUptoRow.laid ((wF os).forCall (fun _ _=>0) ⟨#[],Ql,[]⟩).memory:=
 laidMet_of_run' 8 (by kernel_rfl) (by kernel_rfl)
omit tJ in
theorem ajt (os:Os) {H:Type} (enc:TypeId × Value→H):∃ places,DataW.whole enc aai ((wF os).forCall (fun _ _=>0) ⟨#[],Ql,[]⟩).memory anl.params.toList Rows.waysFactsSpec.vars false Ql.toList 8=some ([.agg [.nil],.agg [.lit (.int .i64 0),.lit (.int .i64 0),.nil,.nil,.nil,.lit (.int .i64 0),.lit (.int .i64 0),.nil],.nil],[],places):=
 ⟨[],by kernel_rfl⟩
theorem lifted6 (os:Os) (started:os.Started) (H:Type) (enc:TypeId × Value→H) (F:Stop.Interp):
  ReturnsInHanded {} aur os 6 .any ((Rows.OpenSpec.upto Rows.waysFactsSpec).preRow enc aai anl Rows.waysFactsUptoRow.domain false Rows.waysFactsUptoRow.laid) (((Rows.OpenSpec.upto Rows.waysFactsSpec).at F).post enc aai anl false true false false):=by
 obtain ⟨places,hx⟩:=ajt os enc
 refine returnsInHanded_of_row (C:=aur) (s:=Rows.OpenSpec.upto Rows.waysFactsSpec) agX started (by kernel_rfl) axp
  (witness_row_at (enc:=enc) (C:=aur) false (wF os) Ql rfl (by kernel_rfl) (by kernel_rfl) (by kernel_rfl)
   (OpenSpec.preRow_of_cond 8 hx (by kernel_rfl) (fun k hk=>by cases hk; rfl) (by kernel_rfl) (laid_met6 os))) ?_
 intro W base args ds gs before hval hW _ hk _ hL _ _
 exact aaq tJ H enc W base args ds gs before hval hW (apz (hk _ rfl)) hL
theorem amk:Rows.WaysFactsUptoSaid:=
 OpenClaim.holds_of_cond 6 anl rfl rfl rfl rfl rfl rfl rfl ⟨rfl,rfl,rfl,rfl,rfl⟩ rfl rfl rfl rfl rfl ajo axp afm amg amh
  (fun os started H enc _ F=>by rw [OpenClaim.pre_eq_preRow]; exact lifted6 tJ os started H enc F)
theorem aml:Rows.WaysFactsUptoCardSaid:=
 Claim7.holds_tied_plain_at .later [] _ _ _ _ (amk tJ) (fun _ h=>by cases h) wf6 (fun _ h=>by cases h) waysFactsUpto_row_tie rfl ⟨rfl,rfl⟩ ami rfl ajp amj
end
end Go.Proofs.YtjbhhddfaohdnaaGreatDoor
end
section
namespace Go.Proofs.Z
open Go.Proofs.YtjbhhddfaohdnaaGreatDoor
open Go Go.au Go.Proofs
def Up (l:List W) (v:W):Prop:=∃ z∈l,dY z v=true
def Rf (v y:W):Prop:=(∃ x∈y.pos,x∈v.neg)∨∃ x∈y.neg,x∈v.pos
theorem BH (w:W):ig w=true↔∀ x∈w.pos,x∉w.neg:=by
 simp only [ig,ap8,apY,arC]
theorem aar {a b:W} (h:dY a b=true) (hb:ig b=true):ig a=true:=by
 rw [gB] at h
 rw [BH] at hb ⊢
 exact fun x hx hn=>hb x (h.1 x hx) (h.2 x hn)
theorem O4 (a b:W):dY (iQ a) b=true↔dY a b=true:=by
 rw [gB,gB]; simp only [iQ,sZ]
theorem aas (a:W):ig (iQ a)=true↔ig a=true:=by
 rw [BH,BH]; simp only [iQ,sZ]
theorem aat {l:List W} {x:W} (h:x∈dZ l):∃ y∈bC l,dY y x=true:=
 FT (dH x).toNat (by unfold dH; omega) h
theorem vU {l:List W} {v:W} (hv:ig v=true):Up (bC l) v↔Up l v:=by
 constructor
 ·rintro ⟨z,hz,hp⟩
  obtain ⟨y,hy,rfl⟩:=zX hz
  exact ⟨y,hy,(O4 y v).1 hp⟩
 ·rintro ⟨z,hz,hp⟩
  have hn:iQ z∈dZ l:=ana.2 ⟨aq5 hz,(aas z).2 (aar hp hv)⟩
  obtain ⟨y,hy,hyz⟩:=aat hn
  exact ⟨y,hy,su hyz ((O4 z v).2 hp)⟩
theorem afn {a b:W} (ha:Norm a) (hb:Norm b) (h1:dY a b=true) (h2:dY b a=true):a=b:=by
 obtain ⟨a1,a2⟩:=oM ha hb h1
 obtain ⟨b1,_⟩:=oM hb ha h2
 exact a2 (by omega)
theorem up_sub {l l':List W} (h:∀ v,ig v=true→(Up l v↔Up l' v)) {x:W} (hx:x∈bC l):x∈bC l':=by
 obtain ⟨hxn,hxm⟩:=(jX l x).1 hx
 have hc:ig x=true:=(ana.1 hxn).2
 obtain ⟨y,hy,hyx⟩:=(vU hc).2 ((h x hc).1 ((vU hc).1 ⟨x,hx,mQ x⟩))
 obtain ⟨hyn,_⟩:=(jX l' y).1 hy
 have hcy:ig y=true:=(ana.1 hyn).2
 obtain ⟨z,hz,hzy⟩:=(vU hcy).2 ((h y hcy).2 ((vU hcy).1 ⟨y,hy,mQ y⟩))
 have e:=hxm z ((jX l z).1 hz).1 (su hzy hyx)
 rw [e] at hzy
 rw [afn (kD hxn) (kD hyn) hzy hyx]; exact hy
theorem amm {l l':List W} (h:∀ v,ig v=true→(Up l v↔Up l' v)):bC l=bC l':=
 sO (lt:=fun a b=>vF a b<0) gZ.asymm (jH gZ _) (jH gZ _) fun _=>⟨up_sub h,up_sub fun v hv=>(h v hv).symm⟩
theorem NT {a b:List W} {v:W}:Up (dS a b) v↔Up a v∧Up b v:=by
 unfold Up dS
 constructor
 ·rintro ⟨z,hz,hp⟩
  obtain ⟨x,hx,hz⟩:=afZ.1 hz
  obtain ⟨y,hy,rfl⟩:=adE.1 hz
  rw [gB] at hp
  simp only [nT,agh] at hp
  exact ⟨⟨x,hx,(gB _ _).2 ⟨fun t ht=>hp.1 t (.inl ht),fun t ht=>hp.2 t (.inl ht)⟩⟩,y,hy,(gB _ _).2 ⟨fun t ht=>hp.1 t (.inr ht),fun t ht=>hp.2 t (.inr ht)⟩⟩
 ·rintro ⟨⟨x,hx,h1⟩,y,hy,h2⟩
  rw [gB] at h1 h2
  refine ⟨nT x y,afZ.2 ⟨x,hx,aq5 hy⟩,(gB _ _).2 ?_⟩
  simp only [nT,agh]
  exact ⟨fun t ht=>ht.elim (h1.1 t) (h2.1 t),fun t ht=>ht.elim (h1.2 t) (h2.2 t)⟩
theorem aju {y v:W}:Up (l7 y) v↔Rf v y:=by
 unfold Up l7 Rf
 simp only [agh,adE,gB]
 constructor
 ·rintro ⟨z,⟨x,hx,rfl⟩ | ⟨x,hx,rfl⟩,h1,h2⟩
  ·exact .inl ⟨x,hx,h2 x (by simp [lK])⟩
  ·exact .inr ⟨x,hx,h1 x (by simp [oz])⟩
 ·rintro (⟨x,hx,h⟩ | ⟨x,hx,h⟩)
  ·exact ⟨lK x,.inl ⟨x,hx,rfl⟩,by simp [lK],by simpa [lK] using h⟩
  ·exact ⟨oz x,.inr ⟨x,hx,rfl⟩,by simpa [oz] using h,by simp [oz]⟩
theorem O5 {v:W} (hv:ig v=true):∀ (ys l l':List W),dJ l ys=some l'→(Up l' v↔Up l v∧∀ y∈ys,Rf v y)
 | [],l,l',h=>by simp only [dJ,ad2] at h; subst h; simp
 | y::ys,l,l',h=>by
  simp only [dJ] at h
  split at h
  ·rw [O5 hv ys _ l' h,vU hv,NT,aju,ajy,and_assoc]
  ·cases h
def yE (m:AM) (row:List V) (v:W):Prop:=∃ r∈m,r.2.row=row∧Up r.2.ways v
def VQ (m:AM) (row:List V) (v:W):Prop:=∀ r∈m,r.2.row=row→∀ y∈r.2.ways,Rf v y
def UpL (L:bD) (row:List V) (v:W):Prop:=∃ x∈L,x.1=row∧Up x.2 v
theorem ac1 {L:bD} (hi:rE L) {v:W} (hv:ig v=true) (row:List V):yE (eF (bQ L)) row v↔UpL L row v:=by
 constructor
 ·rintro ⟨r,hr,rfl,hu⟩
  obtain ⟨x,hx,rfl,_⟩:=(rF hi r).1 hr
  obtain ⟨w,hw,hp⟩:=(vU hv).1 hu
  obtain ⟨y,hy,e,hw⟩:=lg.1 hw
  exact ⟨y,hy,hi y hy x hx e,w,hw,hp⟩
 ·rintro ⟨x,hx,rfl,w,hw,hp⟩
  have hu:Up (bC (jV (rowB x.1) L)) v:=(vU hv).2 ⟨w,lg.2 ⟨x,hx,rfl,hw⟩,hp⟩
  refine ⟨_,(rF hi _).2 ⟨x,hx,rfl,?_⟩,rfl,hu⟩
  obtain ⟨z,hz,_⟩:=hu
  exact fun e=>by rw [ai9.1 e] at hz; simp at hz
theorem JR {m:AM} {row:List V} {v:W}:UpL (gq m) row v↔yE m row v:=by
 constructor
 ·rintro ⟨x,hx,rfl,hu⟩
  obtain ⟨r,hr,hx⟩:=afZ.1 hx
  obtain rfl:=adJ.1 hx
  exact ⟨r,hr,rfl,hu⟩
 ·rintro ⟨r,hr,rfl,hu⟩
  exact ⟨(r.2.row,r.2.ways),afZ.2 ⟨r,hr,adJ.2 rfl⟩,rfl,hu⟩
theorem O6 {n c d:Nat} {m1 m2:AM} (h1:fF n c m1) (h2:fF n d m2) {r:ByteArray × Ans} (hr:r∈m1) {l:List W} (hl:fD m2 r=some l) {v:W} (hv:ig v=true):Up l v↔Up r.2.ways v∧VQ m2 r.2.row v:=by
 unfold fD at hl
 rw [O5 hv _ _ _ hl]
 refine and_congr_right fun _=>?_
 cases e:ni r.1 m2 with
 | none=>
  have hno:∀ q∈m2,q.2.row≠r.2.row:=fun q hq e2=>by
   have:q.1=r.1:=by rw [h1.name r hr,h2.name q hq,e2]
   have:=oZ h2.nodup hq
   rw [‹q.1=r.1›,e] at this; cases this
  exact ⟨fun _ q hq e2=>(hno q hq e2).elim,fun _ y hy=>by simp at hy⟩
 | some ys=>
  obtain ⟨q,hq,e1,e2⟩:=GY e
  have hrow:q.2.row=r.2.row:=JK (h2.valid q hq) (h1.valid r hr) (by rw [← h1.name r hr,← h2.name q hq,e1])
  constructor
  ·intro h q' hq' e3 y hy
   have:q'=q:=by
    have e4:q'.1=q.1:=by rw [h2.name q hq,h2.name q' hq',e3,hrow]
    have h5:=oZ h2.nodup hq
    have h6:=oZ h2.nodup hq'
    obtain ⟨i,hi,rfl⟩:=af2 hq
    exact (zT h2.nodup hq' hi e4.symm).symm
   subst this
   rw [← e2] at h
   exact h y hy
  ·intro h y hy
   have hy:y∈ys:=hy
   rw [← e2] at hy
   exact h q hq hrow y hy
def LZ (p:Plan) (facts:List bF) (ms:List AM) (row:List V) (v:W):Prop:=
 if p.kind=1 then ∃ i,∃ h:i<facts.length,facts[i].table=p.table∧facts[i].row=row∧(i:Int)∈v.pos else match p.kids,ms with
 | [_],[m]=>if p.kind=2 then wP p row=false∧yE m row v else if p.kind=3 then ∃ r,aS r p.cols=row∧yE m r v else yE m row v
 | [k0,k1],[m1,m2]=>if p.kind=4 then ∃ r1 r2,jk k0.attrs k1.attrs r1 r2=some row∧yE m1 r1 v∧yE m2 r2 v else if p.kind=5 then yE m1 row v∨yE m2 row v
   else yE m1 row v∧VQ m2 row v
 | _,_=>False
theorem afo {tl:List bH} {facts:List bF} {n:Nat} {p:Plan} (hs:Shape tl n p) {ms:List AM} {L:bD} (hl:ms.length=p.kids.length) (hc:∀ i (h:i<p.kids.length) (h2:i<ms.length),fF facts.length p.kids[i].attrs.length ms[i]) (h:bY p facts ms=some L) {v:W} (hv:ig v=true) (row:List V):UpL L row v↔LZ p facts ms row v:=by
 have one:∀ q,p.kids=[q]→∃ m,ms=[m]:=by
  intro q hk
  rw [hk] at hl
  exact agj.1 hl
 have two:∀ q r,p.kids=[q,r]→∃ m1 m2,ms=[m1,m2]:=by
  intro q r hk
  rw [hk] at hl
  exact lM hl
 unfold bY at h
 unfold LZ
 cases hs with
 | table hk hks h0 h1 hl'=>
  rw [adA hk] at h ⊢; cases h
  unfold UpL kQ
  constructor
  ·rintro ⟨x,hx,rfl,w,hw,hp⟩
   obtain ⟨⟨f,i⟩,hq,hx⟩:=afZ.1 hx
   obtain ⟨hi,hfi⟩:=awl hq
   have hfi:f=facts[i]:=hfi
   subst hfi
   split at hx
   ·rename_i e
    rw [adJ] at hx
    subst hx
    rw [adJ.1 hw,gB] at hp
    exact ⟨i,hi,e,rfl,hp.1 _ (by simp)⟩
   ·simp at hx
  ·rintro ⟨i,hi,e,rfl,hm⟩
   refine ⟨(facts[i].row,[⟨[(i:Int)],[]⟩]),afZ.2 ⟨(facts[i],i),?_,?_⟩,rfl,⟨[(i:Int)],[]⟩,by simp,(gB _ _).2 ⟨by simpa using hm,by simp⟩⟩
   ·rw [aps]; simp [hi]
   ·simp only; rw [adA e]; simp
 | sel hk q hks hq hsv hl'=>
  obtain ⟨m,rfl⟩:=one q hks
  simp only [hk,hks,reduceIte,aga] at h ⊢
  cases h
  constructor
  ·rintro ⟨x,hx,rfl,hu⟩
   obtain ⟨r,hr,hx⟩:=afZ.1 hx
   unfold nH at hx
   split at hx
   ·simp at hx
   ·rename_i hb
    obtain rfl:=adJ.1 hx
    exact ⟨by simpa using hb,r,hr,rfl,hu⟩
  ·rintro ⟨hb,r,hr,rfl,hu⟩
   refine ⟨(r.2.row,r.2.ways),afZ.2 ⟨r,hr,?_⟩,rfl,hu⟩
   unfold nH
   rw [adt (by simp [hb])]
   exact adJ.2 rfl
 | proj hk q hks hq hcc hl'=>
  obtain ⟨m,rfl⟩:=one q hks
  simp only [hk,hks,reduceIte,aga] at h ⊢
  cases h
  constructor
  ·rintro ⟨x,hx,rfl,hu⟩
   obtain ⟨r,hr,hx⟩:=afZ.1 hx
   obtain rfl:=adJ.1 hx
   exact ⟨r.2.row,rfl,r,hr,rfl,hu⟩
  ·rintro ⟨_,rfl,r,hr,rfl,hu⟩
   exact ⟨(aS r.2.row p.cols,r.2.ways),afZ.2 ⟨r,hr,adJ.2 rfl⟩,rfl,hu⟩
 | ren hk q hks hq hl'=>
  obtain ⟨m,rfl⟩:=one q hks
  simp only [hk,hks,reduceIte,aga] at h ⊢
  cases h
  exact JR
 | join hk q r hks hq hr hn hj=>
  obtain ⟨m1,m2,rfl⟩:=two q r hks
  simp only [hk,hks,reduceIte,aga] at h ⊢
  cases h
  constructor
  ·rintro ⟨x,hx,rfl,hu⟩
   obtain ⟨a,ha,hx⟩:=afZ.1 hx
   obtain ⟨b,hb,hx⟩:=afZ.1 hx
   unfold iq at hx
   split at hx
   ·rename_i row e
    obtain rfl:=adJ.1 hx
    rw [show Up (bC (dS a.2.ways b.2.ways)) v↔_ from (vU hv).trans NT] at hu
    exact ⟨_,_,e,⟨a,ha,rfl,hu.1⟩,b,hb,rfl,hu.2⟩
   ·simp at hx
  ·rintro ⟨_,_,e,⟨a,ha,rfl,hu1⟩,b,hb,rfl,hu2⟩
   refine ⟨(row,bC (dS a.2.ways b.2.ways)),afZ.2 ⟨a,ha,afZ.2 ⟨b,hb,?_⟩⟩,rfl,(vU hv).2 (NT.2 ⟨hu1,hu2⟩)⟩
   unfold iq
   rw [e]; exact adJ.2 rfl
 | union hk q r hks hq hr hl1 hl2=>
  obtain ⟨m1,m2,rfl⟩:=two q r hks
  simp only [hk,hks,reduceIte,aga] at h ⊢
  cases h
  rw [← JR,← JR]
  unfold UpL
  simp only [agh,or_and_right,exists_or]
 | minus hk q r hks hq hr hl1 hl2=>
  obtain ⟨m1,m2,rfl⟩:=two q r hks
  have c1:=hc 0 (by rw [hks]; simp) (by simp)
  have c2:=hc 1 (by rw [hks]; simp) (by simp)
  simp only [List.getElem_cons_zero,List.getElem_cons_succ] at c1 c2
  simp only [hk,hks,reduceIte,aga] at h ⊢
  split at h
  ·rename_i hall
   rw [afX] at hall
   cases h
   constructor
   ·rintro ⟨x,hx,rfl,hu⟩
    obtain ⟨a,ha,hx⟩:=afZ.1 hx
    unfold jU at hx
    obtain rfl:=adJ.1 hx
    obtain ⟨l,e⟩:=aho.1 (hall a ha)
    have hu:Up ((fD m2 a).getD []) v:=hu
    rw [e,agd,O6 c1 c2 ha e hv] at hu
    exact ⟨⟨a,ha,rfl,hu.1⟩,hu.2⟩
   ·rintro ⟨⟨a,ha,rfl,hu⟩,hrf⟩
    obtain ⟨l,e⟩:=aho.1 (hall a ha)
    refine ⟨(a.2.row,(fD m2 a).getD []),afZ.2 ⟨a,ha,adJ.2 rfl⟩,rfl,?_⟩
    show Up ((fD m2 a).getD []) v
    rw [e,agd,O6 c1 c2 ha e hv]
    exact ⟨hu,hrf⟩
  ·cases h
theorem VR {tl:List bH} {p:Plan} {facts:List bF} {m:AM} (h:Goes tl p facts m):∃ ms,ms.length=p.kids.length∧(∀ i (hi:i<p.kids.length) (h2:i<ms.length),Goes tl p.kids[i] facts ms[i])∧Shape tl 11 p∧∀ v,ig v=true→∀ row,yE m row v↔LZ p facts ms row v:=by
 obtain ⟨ms,L,h1,h2,h3,rfl⟩:=tH.1 h.ev
 obtain ⟨hl,h4⟩:=nI h1
 obtain ⟨h8,hgk⟩:=o8 h.free
 have hs:=kF h.valid h8
 have hk:∀ i (hi:i<p.kids.length) (h2:i<ms.length),Goes tl p.kids[i] facts ms[i]:=fun i hi hi2=>by
  have hv:=hs.kids _ (aaO hi)
  have hg:=hgk _ (aaO hi)
  exact ⟨h.ok,Hf tl 11 _ hv,hg,by rw [TJ 11 _ hv]; exact h4 i hi hi2,oC h.ok 11 _ _ hv hg (BA 11 _ _ (h4 i hi hi2))⟩
 have hc:∀ i (hi:i<p.kids.length) (h2:i<ms.length),fF facts.length p.kids[i].attrs.length ms[i]:=fun i hi hi2=>(hk i hi hi2).clo
 refine ⟨ms,hl,hk,hs,fun v hv row=>?_⟩
 rw [ac1 (wQ h.ok hs hl hc h2).inj hv,afo hs hl hc h2 hv]
end Go.Proofs.Z
end
section
namespace Go.Proofs.Z
open Go.Proofs.YtjbhhddfaohdnaaGreatDoor
open Go Go.au Go.Proofs
def jl (n:Nat) (x:Int):Int:=(n:Int) - 1 - x
def gy (n:Nat) (w:W):W:=⟨w.pos.map (jl n),w.neg.map (jl n)⟩
theorem Hl (n:Nat) (x:Int):jl n (jl n x)=x:=by unfold jl; omega
theorem wR (n:Nat) (w:W):gy n (gy n w)=w:=by
 have e:jl n ∘ jl n=id:=by funext x; exact Hl n x
 cases w
 simp [gy,e]
theorem qP {n:Nat} {l:List Int} {x:Int}:x∈l.map (jl n)↔jl n x∈l:=by
 rw [adE]
 constructor
 ·rintro ⟨y,hy,rfl⟩; rwa [Hl]
 ·intro h; exact ⟨_,h,Hl n x⟩
theorem aav (n:Nat) {a b:W} (h:dY a b=true):dY (gy n a) (gy n b)=true:=by
 rw [gB] at h ⊢
 exact ⟨fun x hx=>qP.2 (h.1 _ (qP.1 hx)),fun x hx=>qP.2 (h.2 _ (qP.1 hx))⟩
theorem xR (n:Nat) {v:W} (h:ig v=true):ig (gy n v)=true:=by
 rw [BH] at h ⊢
 exact fun x hx hn=>h _ (qP.1 hx) (qP.1 hn)
theorem afp (n:Nat) {v y:W} (h:Rf v y):Rf (gy n v) (gy n y):=by
 rcases h with ⟨x,hx,h⟩ | ⟨x,hx,h⟩
 ·exact .inl ⟨jl n x,aq5 hx,aq5 h⟩
 ·exact .inr ⟨jl n x,aq5 hx,aq5 h⟩
theorem VT (n:Nat) {l:List W} {v:W} (h:Up l v):Up (l.map (gy n)) (gy n v):=by
 obtain ⟨z,hz,hp⟩:=h
 exact ⟨gy n z,aq5 hz,aav n hp⟩
theorem UR (n:Nat) {l:List W} {v:W}:Up (l.map (gy n)) v↔Up l (gy n v):=by
 constructor
 ·intro h
  have:=VT n h
  rw [apC,show gy n ∘ gy n=id from by funext w; exact wR n w,List.map_id] at this
  exact this
 ·intro h
  have:=VT n h
  rwa [wR] at this
theorem fF.cons {n c:Nat} {m:AM} (h:fF n c m) {r:ByteArray × Ans} (hr:r∈m) {y:W} (hy:y∈r.2.ways):ig y=true:=by
 rw [← h.min r hr] at hy
 exact (ana.1 ((jX _ y).1 hy).1).2
theorem fF.same {n c:Nat} {m:AM} (h:fF n c m) {r q:ByteArray × Ans} (hr:r∈m) (hq:q∈m) (e:r.2.row=q.2.row):r=q:=by
 obtain ⟨i,hi,rfl⟩:=af2 hr
 exact zT h.nodup hq hi (by rw [h.name _ hr,h.name q hq,e])
theorem fF.up {n c:Nat} {m:AM} (h:fF n c m) {r:ByteArray × Ans} (hr:r∈m) (v:W):yE m r.2.row v↔Up r.2.ways v:=by
 constructor
 ·rintro ⟨q,hq,e,hu⟩
  rw [← h.same hq hr e]; exact hu
 ·exact fun hu=>⟨r,hr,rfl,hu⟩
theorem afq {v z y:W} (h:Rf v z) (hp:dY z y=true):Rf v y:=by
 rw [gB] at hp
 rcases h with ⟨x,hx,h⟩ | ⟨x,hx,h⟩
 ·exact .inl ⟨x,hp.1 x hx,h⟩
 ·exact .inr ⟨x,hp.2 x hx,h⟩
def Like (n:Nat) (m m':AM):Prop:=∀ row v,ig v=true→(yE m row v↔yE m' row (gy n v))
theorem Like.symm {n:Nat} {m m':AM} (h:Like n m m'):Like n m' m:=fun row v hv=>by
 have:=h row (gy n v) (xR n hv)
 rw [wR] at this; exact this.symm
theorem Like.rf {n k c:Nat} {m m':AM} (h:Like n m m') (hc:fF k c m') {row:List V} {v:W} (hr:VQ m row v):VQ m' row (gy n v):=by
 intro r' hr' e y' hy'
 have hy0:ig (gy n y')=true:=xR n (hc.cons hr' hy')
 have hu:yE m' row (gy n (gy n y')):=by rw [wR]; exact ⟨r',hr',e,y',hy',mQ _⟩
 obtain ⟨r,hr2,e2,z,hz,hp⟩:=(h row _ hy0).2 hu
 have:=afp n (afq (hr r hr2 e2 z hz) hp)
 rwa [wR] at this
theorem Like.ajv {n k c d:Nat} {m m':AM} (h:Like n m m') (hc:fF k c m) (hc':fF k d m') {row:List V} {v:W}:VQ m row v↔VQ m' row (gy n v):=
 ⟨h.rf hc',fun hr=>by have:=h.symm.rf hc hr; rwa [wR] at this⟩
theorem O7 {tl:List bH} {facts:List bF}:∀ (k:Nat) (p:Plan),SizeOf.sizeOf p≤k→∀ m m',Goes tl p facts m→Goes tl p facts.reverse m'→Like facts.length m m'
 | 0,p,h=>by cases p; simp at h
 | k+1,p,h=>by
  intro m m' hm hm' row v hv
  obtain ⟨ms,hl,hkd,hs,hu⟩:=VR hm
  obtain ⟨ms',hl',ajw,_,hu'⟩:=VR hm'
  rw [hu v hv row,hu' _ (xR _ hv) row]
  have ih:∀ i (hi:i<p.kids.length) (h1:i<ms.length) (h2:i<ms'.length),Like facts.length ms[i] ms'[i]:=fun i hi h1 h2=>
   O7 k p.kids[i] (by have:=yZ (aaO hi); omega) _ _ (hkd i hi h1) (ajw i hi h2)
  have one:∀ q,p.kids=[q]→∃ m1 ql,ms=[m1]∧ms'=[ql]∧Like facts.length m1 ql:=by
   intro q e
   have i0:=ih 0 (by rw [e]; simp) (by rw [hl,e]; simp) (by rw [hl',e]; simp)
   rw [e] at hl hl'
   obtain ⟨m1,rfl⟩:=agj.1 hl
   obtain ⟨ql,rfl⟩:=agj.1 hl'
   exact ⟨m1,ql,rfl,rfl,i0⟩
  have two:∀ q r,p.kids=[q,r]→∃ m1 m2 ql xO,ms=[m1,m2]∧ms'=[ql,xO]∧Like facts.length m1 ql∧Like facts.length m2 xO∧Goes tl r facts m2∧Goes tl r facts.reverse xO:=by
   intro q r e
   have i0:=ih 0 (by rw [e]; simp) (by rw [hl,e]; simp) (by rw [hl',e]; simp)
   have i1:=ih 1 (by rw [e]; simp) (by rw [hl,e]; simp) (by rw [hl',e]; simp)
   have g1:=hkd 1 (by rw [e]; simp) (by rw [hl,e]; simp)
   have g1':=ajw 1 (by rw [e]; simp) (by rw [hl',e]; simp)
   rw [e] at hl hl'
   obtain ⟨m1,m2,rfl⟩:=lM hl
   obtain ⟨ql,xO,rfl⟩:=lM hl'
   exact ⟨m1,m2,ql,xO,rfl,rfl,i0,i1,by simpa [e] using g1,by simpa [e] using g1'⟩
  unfold LZ
  cases hs with
  | table hk hks h0 h1 hl'=>
   rw [adA hk,adA hk]
   constructor
   ·rintro ⟨i,hi,e1,e2,e3⟩
    have hj:facts.length - 1 - i<facts.reverse.length:=by rw [arY]; omega
    have e:facts.reverse[facts.length - 1 - i]=facts[i]:=by
     rw [axq]; congr 1; omega
    have et:jl facts.length ((facts.length - 1 - i:Nat):Int)=(i:Int):=by unfold jl; omega
    exact ⟨_,hj,by rw [e]; exact e1,by rw [e]; exact e2,qP.2 (by rw [et]; exact e3)⟩
   ·rintro ⟨i,hi,e1,e2,e3⟩
    have hi':i<facts.length:=by rwa [arY] at hi
    have hj:facts.length - 1 - i<facts.length:=by omega
    rw [axq] at e1 e2
    refine ⟨_,hj,e1,e2,?_⟩
    have:=qP.1 e3
    have e:jl facts.length (i:Int)=((facts.length - 1 - i:Nat):Int):=by unfold jl; omega
    rwa [e] at this
  | sel hk q hks hq hsv hl'=>
   obtain ⟨m1,ql,rfl,rfl,i0⟩:=one q hks
   simp only [hk,hks,reduceIte,aga]
   rw [i0 row v hv]
  | proj hk q hks hq hcc hl'=>
   obtain ⟨m1,ql,rfl,rfl,i0⟩:=one q hks
   simp only [hk,hks,reduceIte,aga]
   exact exists_congr fun r=>and_congr_right fun _=>i0 r v hv
  | ren hk q hks hq hl'=>
   obtain ⟨m1,ql,rfl,rfl,i0⟩:=one q hks
   simp only [hk,hks,reduceIte,aga]
   exact i0 row v hv
  | join hk q r hks hq hr hn hj=>
   obtain ⟨m1,m2,ql,xO,rfl,rfl,i0,i1,_,_⟩:=two q r hks
   simp only [hk,hks,reduceIte,aga]
   exact exists_congr fun r1=>exists_congr fun r2=>and_congr_right fun _=>and_congr (i0 r1 v hv) (i1 r2 v hv)
  | union hk q r hks hq hr hl1 hl2=>
   obtain ⟨m1,m2,ql,xO,rfl,rfl,i0,i1,_,_⟩:=two q r hks
   simp only [hk,hks,reduceIte,aga]
   exact or_congr (i0 row v hv) (i1 row v hv)
  | minus hk q r hks hq hr hl1 hl2=>
   obtain ⟨m1,m2,ql,xO,rfl,rfl,i0,i1,g1,g1'⟩:=two q r hks
   simp only [hk,hks,reduceIte,aga]
   have c1':=g1'.clo
   rw [arY] at c1'
   exact and_congr (i0 row v hv) (i1.ajv g1.clo c1')
theorem ac2 (tl:List bH) (p:Plan) (facts:List bF):jM tl p facts.reverse=jM tl p facts:=by
 unfold jM
 simp only [List.mem_reverse,arY]
theorem O8 {tl:List bH} {p:Plan} {facts:List bF} (h:bJ tl p facts≠3) (h':bJ tl p facts.reverse≠3):bJ tl p facts.reverse=bJ tl p facts:=by
 unfold bJ at *
 rw [ac2] at *
 split
 ·rfl
 ·rename_i hb
  rw [adt hb] at h h'
  split at h
  ·split at h'
   ·rename_i h1 h2; rw [adA h1,adA h2]
   ·exact (h' rfl).elim
  ·exact (h rfl).elim
theorem Goes.rows {tl:List bH} {p:Plan} {facts:List bF} {m:AM} (h:Goes tl p facts m) (row:List V):row∈(fZ facts p).map (·.row)↔∃ v,ig v=true∧yE m row v:=by
 rw [adE]
 constructor
 ·rintro ⟨a,ha,rfl⟩
  obtain ⟨r,hr,rfl⟩:=(h.mem a).1 ha
  obtain ⟨y,hy⟩:=List.exists_mem_of_ne_nil _ (h.clo.some r hr)
  exact ⟨y,h.clo.cons hr hy,r,hr,rfl,y,hy,mQ y⟩
 ·rintro ⟨v,_,r,hr,rfl,_⟩
  exact ⟨r.2,(h.mem _).2 ⟨r,hr,rfl⟩,rfl⟩
theorem X4 (a b:List V) (h1:cZ a b<0) (h2:cZ b a<0):False:=dM.asymm a b h1 h2
theorem X5 {tl:List bH} {p:Plan} {facts:List bF} (h:bJ tl p facts=0) (h':bJ tl p facts.reverse=0):(fZ facts p).length=(fZ facts.reverse p).length ∧
  ∀ i (hi:i<(fZ facts p).length) (hi':i<(fZ facts.reverse p).length),(fZ facts p)[i].row=(fZ facts.reverse p)[i].row∧bC ((fZ facts.reverse p)[i].ways.map (gy facts.length))=(fZ facts p)[i].ways:=by
 obtain ⟨m,hm⟩:=rJ h
 obtain ⟨m',hm'⟩:=rJ h'
 have hlk:=O7 _ p (aew _) m m' hm hm'
 have ajx:(fZ facts p).map (·.row)=(fZ facts.reverse p).map (·.row):=by
  refine sO (lt:=fun a b=>cZ a b<0) X4 (ap0.2 hm.strict) (ap0.2 hm'.strict) fun row=>?_
  rw [hm.rows,hm'.rows]
  constructor
  ·rintro ⟨v,hv,hu⟩; exact ⟨_,xR _ hv,(hlk row v hv).1 hu⟩
  ·rintro ⟨v,hv,hu⟩; exact ⟨_,xR _ hv,(hlk.symm row v hv).1 hu⟩
 have hlen:(fZ facts p).length=(fZ facts.reverse p).length:=by have:=congrArg af0 ajx; simpa using this
 refine ⟨hlen,fun i hi hi'=>?_⟩
 have er:(fZ facts p)[i].row=(fZ facts.reverse p)[i].row:=by
  have e:((fZ facts p).map (·.row))[i]? = ((fZ facts.reverse p).map (·.row))[i]?:=by rw [ajx]
  rw [ano,ano,af4 hi,af4 hi'] at e
  simpa using e
 refine ⟨er,?_⟩
 obtain ⟨r,hr,e1⟩:=(hm.mem _).1 (aaO hi)
 obtain ⟨r',hr',e2⟩:=(hm'.mem _).1 (aaO hi')
 rw [← e1,← e2] at er ⊢
 rw [← hm.clo.min r hr]
 refine amm fun v hv=>?_
 rw [UR,← hm'.clo.up hr',← hm.clo.up hr,← er]
 exact (hlk _ v hv).symm
mutual
def Ag (t:Int):Plan→Bool
 | .mk k tb kids _ _ _ _ _=>X6 t kids || (k == 1&&tb == t)
def X6 (t:Int):List Plan→Bool
 | []=>false
 | p::l=>Ag t p || X6 t l
end
theorem TR (t:Int):∀ l:List Plan,X6 t l=l.any (Ag t)
 | []=>rfl
 | p::l=>by rw [X6,TR t l]; rfl
theorem TU (t:Int) (p:Plan):Ag t p=(p.kids.any (Ag t) || (p.kind == 1&&p.table == t)):=by
 cases p; rw [Ag,TR]; rfl
def ac3 (P:Int→Prop) (w:W):Prop:=(∀ x∈w.pos,P x)∧∀ x∈w.neg,P x
def yu (P:Int→Prop) (l:List W):Prop:=∀ w∈l,ac3 P w
theorem NU {P:Int→Prop} {l:List W} (h:yu P l):yu P (bC l):=by
 intro w hw
 obtain ⟨y,hy,rfl⟩:=zX hw
 exact ⟨fun x hx=>(h y hy).1 x ((sZ x _).1 hx),fun x hx=>(h y hy).2 x ((sZ x _).1 hx)⟩
theorem TW {P:Int→Prop} {a b:List W} (ha:yu P a) (hb:yu P b):yu P (dS a b):=by
 intro w hw
 simp only [dS,afZ,adE] at hw
 obtain ⟨x,hx,y,hy,rfl⟩:=hw
 exact ⟨fun z hz=>(agh.1 hz).elim ((ha x hx).1 z) ((hb y hy).1 z),fun z hz=>(agh.1 hz).elim ((ha x hx).2 z) ((hb y hy).2 z)⟩
theorem afr {P:Int→Prop} {y:W} (h:ac3 P y):yu P (l7 y):=by
 intro w hw
 simp only [l7,agh,adE] at hw
 rcases hw with ⟨v,hv,rfl⟩ | ⟨v,hv,rfl⟩
 ·exact ⟨fun z hz=>by simp [lK] at hz,fun z hz=>by simp [lK] at hz; subst hz; exact h.1 _ hv⟩
 ·exact ⟨fun z hz=>by simp [oz] at hz; subst hz; exact h.2 _ hv,fun z hz=>by simp [oz] at hz⟩
theorem L6 {P:Int→Prop}:∀ (ys l l':List W),dJ l ys=some l'→yu P l→yu P ys→yu P l'
 | [],l,l',h,hl,_=>by simp only [dJ,ad2] at h; subst h; exact hl
 | y::ys,l,l',h,hl,hy=>by
  simp only [dJ] at h
  split at h
  ·exact L6 ys _ l' h (NU (TW hl (afr (hy y (aeC ..))))) fun w hw=>hy w (aej _ hw)
  ·cases h
def NV (P:Int→Prop) (L:bD):Prop:=∀ x∈L,yu P x.2
def JU (P:Int→Prop) (m:AM):Prop:=∀ q∈m,yu P q.2.ways
theorem aaw {P:Int→Prop} {L:bD} (h:NV P L):JU P (eF (bQ L)):=by
 intro q hq
 obtain ⟨p,hp,hc⟩:=anp.1 hq
 obtain ⟨e1,_⟩:=(xM L).1 p hp
 unfold oq at hc
 split at hc
 ·cases hc
 ·cases hc
  refine NU fun w hw=>?_
  have hw:w∈p.2.ways:=hw
  rw [e1] at hw
  obtain ⟨y,hy,_,h3⟩:=lg.1 hw
  exact h y hy w h3
theorem uF {P:Int→Prop} {m:AM} {f:ByteArray × Ans→bD} (h:∀ q∈m,NV P (f q)):NV P (m.flatMap f):=by
 intro x hx
 obtain ⟨q,hq,hx⟩:=afZ.1 hx
 exact h q hq x hx
theorem Ah {P:Int→Prop} {row:List V} {l:List W} (h:yu P l):NV P [(row,l)]:=by
 intro x hx
 rw [adJ.1 hx]; exact h
theorem Ho {P:Int→Prop} {m:AM} (h:JU P m):NV P (gq m):=uF (f:=add1) fun q hq=>Ah (h q hq)
theorem afs {tl:List bH} {n:Nat} {p:Plan} {facts:List bF} {ms:List AM} {L:bD} {P:Int→Prop} (hs:Shape tl n p) (hP:p.kind=1→∀ i (h:i<facts.length),facts[i].table=p.table→P (i:Int)) (hl:ms.length=p.kids.length) (hm:∀ m∈ms,JU P m) (h0:bY p facts ms=some L):NV P L:=by
 have one:∀ q,p.kids=[q]→∃ m,ms=[m]∧JU P m:=by
  intro q hk
  rw [hk] at hl
  obtain ⟨m,rfl⟩:=agj.1 hl
  exact ⟨m,rfl,hm m (by simp)⟩
 have two:∀ q r,p.kids=[q,r]→∃ m1 m2,ms=[m1,m2]∧JU P m1∧JU P m2:=by
  intro q r hk
  rw [hk] at hl
  obtain ⟨m1,m2,rfl⟩:=lM hl
  exact ⟨m1,m2,rfl,hm m1 (by simp),hm m2 (by simp)⟩
 unfold bY at h0
 cases hs with
 | table hk hks _ _ _=>
  rw [adA hk] at h0; cases h0
  intro x hx
  obtain ⟨⟨f,i⟩,hq,hx⟩:=afZ.1 hx
  obtain ⟨hi,hfi⟩:=awl hq
  have hfi:f=facts[i]:=hfi
  subst hfi
  split at hx
  ·rename_i e
   rw [adJ.1 hx]
   intro w hw
   rw [adJ.1 hw]
   exact ⟨fun z hz=>by rw [adJ.1 hz]; exact hP hk i hi e,fun z hz=>by simp at hz⟩
  ·simp at hx
 | sel hk q hks hq hsv hl'=>
  obtain ⟨m,rfl,h⟩:=one q hks
  simp only [hk,hks,reduceIte,aga] at h0
  cases h0
  refine uF fun q hq=>?_
  unfold nH
  split
  ·intro x hx; simp at hx
  ·exact Ah (h q hq)
 | proj hk q hks hq hcc hl'=>
  obtain ⟨m,rfl,h⟩:=one q hks
  simp only [hk,hks,reduceIte,aga] at h0
  cases h0
  exact uF fun q hq=>Ah (h q hq)
 | ren hk q hks hq hl'=>
  obtain ⟨m,rfl,h⟩:=one q hks
  simp only [hk,hks,reduceIte,aga] at h0
  cases h0
  exact Ho h
 | join hk q r hks hq hr hn hj=>
  obtain ⟨m1,m2,rfl,h1,h2⟩:=two q r hks
  simp only [hk,hks,reduceIte,aga] at h0
  cases h0
  refine uF fun a ha=>uF fun b hb=>?_
  unfold iq
  split
  ·exact Ah (NU (TW (h1 a ha) (h2 b hb)))
  ·intro x hx; simp at hx
 | union hk q r hks hq hr hl1 hl2=>
  obtain ⟨m1,m2,rfl,h1,h2⟩:=two q r hks
  simp only [hk,hks,reduceIte,aga] at h0
  cases h0
  exact fun x hx=>(agh.1 hx).elim (Ho h1 x) (Ho h2 x)
 | minus hk q r hks hq hr hl1 hl2=>
  obtain ⟨m1,m2,rfl,h1,h2⟩:=two q r hks
  simp only [hk,hks,reduceIte,aga] at h0
  split at h0
  ·rename_i hall
   rw [afX] at hall
   cases h0
   refine uF fun a ha=>Ah ?_
   obtain ⟨l,e⟩:=aho.1 (hall a ha)
   rw [e]
   unfold fD at e
   refine L6 _ _ _ e (h1 a ha) fun w hw=>?_
   cases e2:ni a.1 m2 with
   | none=>rw [e2] at hw; simp at hw
   | some ys=>
    rw [e2] at hw
    obtain ⟨q,hq,_,rfl⟩:=GY e2
    exact h2 q hq w hw
  ·cases h0
def Nmd (facts:List bF) (p:Plan) (x:Int):Prop:=0≤x∧∃ h:x.toNat<facts.length,Ag facts[x.toNat].table p=true
theorem L8 {tl:List bH} {facts:List bF}:∀ (k:Nat) (p:Plan),SizeOf.sizeOf p≤k→∀ m,Goes tl p facts m→JU (Nmd facts p) m
 | 0,p,h=>by cases p; simp at h
 | k+1,p,h=>by
  intro m hm
  obtain ⟨ms,L,h1,h2,h3,rfl⟩:=tH.1 hm.ev
  obtain ⟨hl,h4⟩:=nI h1
  obtain ⟨h8,hgk⟩:=o8 hm.free
  have hs:=kF hm.valid h8
  refine aaw (afs hs (fun hk i hi e=>?_) hl (fun m1 hm1=>?_) h2)
  ·refine ⟨by omega,by simpa using hi,?_⟩
   rw [TU]
   simp [hk,e]
  ·obtain ⟨i,hi,rfl⟩:=af2 hm1
   have hi2:i<p.kids.length:=by omega
   have hv:=hs.kids _ (aaO hi2)
   have hg:=hgk _ (aaO hi2)
   have hgo:Goes tl p.kids[i] facts ms[i]:=⟨hm.ok,Hf tl 11 _ hv,hg,by rw [TJ 11 _ hv]; exact h4 i hi2 hi,oC hm.ok 11 _ _ hv hg (BA 11 _ _ (h4 i hi2 hi))⟩
   have ih:=L8 k p.kids[i] (by have:=yZ (aaO hi2); omega) _ hgo
   have up:∀ x,Nmd facts p.kids[i] x→Nmd facts p x:=fun x ⟨h0,hx,hn⟩=>⟨h0,hx,by
    rw [TU]
    have:p.kids.any (Ag facts[x.toNat].table)=true:=aqk.2 ⟨_,aaO hi2,hn⟩
    rw [this]; rfl⟩
   exact fun q hq w hw=>⟨fun x hx=>up x ((ih q hq w hw).1 x hx),fun x hx=>up x ((ih q hq w hw).2 x hx)⟩
theorem O9 {tl:List bH} {p:Plan} {facts:List bF} (h:bJ tl p facts=0):∀ a∈fZ facts p,∀ w∈a.ways,ac3 (Nmd facts p) w:=by
 intro a ha w hw
 obtain ⟨m,hm⟩:=rJ h
 obtain ⟨r,hr,rfl⟩:=(hm.mem a).1 ha
 exact L8 _ p (aew _) m hm r hr w hw
end Go.Proofs.Z
end
section
namespace Go.Proofs.Z
open Go.Proofs.YtjbhhddfaohdnaaGreatDoor
open Go Go.au Go.Proofs
set_option maxRecDepth 10000
set_option maxHeartbeats 4000000
theorem amn:aH aai 25:=fun _ _=>by kernel_rfl
theorem VU (t:Int):∀ (n:Nat) (p:Plan),SizeOf.sizeOf p≤n→aC aai 25 [.pd (plan p),.pd (I t)] [B (Ag t p)]
 | 0,p,h=>by cases p; simp at h
 | n+1,p,h=>by
  have ih:∀ x∈p.kids,aC aai 25 [.pd (plan x),.pd (I t)] [B (Ag t x)]:=fun x hx=>VU t n x (by have:=yZ hx; omega)
  have he:=TU t p
  rw [aJ p]
  refine aC.mk Tryz.func25 rfl amn (by simp [Tryz.ntmps25]) fun w G=>?_
  generalize hks:p.kids=ks at ih he
  apply aB; simp only [go_sem,aau,SV.pd.injEq]
  refine R.fU (fun (k:Nat) s=>St.lp [1,2,20,21,22,23,24,25,26,27,28] [(5,.pd (I k))] [2] [] [] [] s) (fun (k:Nat)=>k≤ks.length∧Ag t p=((ks.drop k).any (Ag t) || (p.kind == 1&&p.table == t))) (fun (k:Nat)=>ks.length - k) (0) (⟨by omega,by simpa using he⟩) ?_
  rintro k ⟨hk,hinv⟩
  by_cases hlt:k<ks.length
  ·have e1:decide ((k:Int)<(ks.length:Int))=true:=by simp; omega
   rw [acU hlt] at hinv
   apply aj; simp only [go_sem,↓reduceIte,e1,getD_map,hlt,Dj,KT]
   repeat refine ⟨by omega,?_⟩
   refine R.bound 8 (sz:=8) (ds:=ks.map plan) rfl fun hl=>?_
   have hl:ks.length≤9223372036854775807:=by simpa [maxLen] using hl
   refine R.kC (ih ks[k] (aaO hlt)) rfl rfl (.cons (.pd _) (.cons (.pd _) (.nil))) ?_
   cases hn:Ag t ks[k] with
   | true=>
    rw [hn] at hinv
    refine aQl ?_
    refine R.rC ?_
    rw [hinv]; rfl
   | false=>
    rw [hn] at hinv
    apply aj; simp only [go_sem,↓reduceIte,wrapN (k:=k) (by omega)]
    refine R.fE (k+1) ⟨by omega,by simpa using hinv⟩
  ·have e1:decide ((k:Int)<(ks.length:Int))=false:=by simp; omega
   rw [agm (by omega)] at hinv
   cases g1:(p.kind == 1) with
   | true=>
    rw [g1] at hinv
    apply aj; simp only [go_sem,↓reduceIte,e1,g1]
    refine R.rC ?_
    rw [hinv]; rfl
   | false=>
    rw [g1] at hinv
    apply aj; simp only [go_sem,↓reduceIte,e1,g1]
    refine R.rC ?_
    rw [hinv]; rfl
theorem named_ok (p:Plan) (t:Int):aC aai 25 [.pd (plan p),.pd (I t)] [B (Ag t p)]:=VU t _ p (aew _)
end Go.Proofs.Z
end
section
namespace Go.Proofs.Z
open Go.Proofs.YtjbhhddfaohdnaaGreatDoor
open Go Go.Proofs Go.au
set_option maxRecDepth 10000
set_option maxHeartbeats 40000000
theorem aoJ:aH aai 6:=fun _ _=>by kernel_rfl
theorem _root_.Go.au.R.ac4 {C:Cx} {x:KI} {kk:List KI} {s s':St} (h1:∀ k',R C k' s'→R C (x::k') s) (h2:R C kk s'):R C (x::kk) s:=h1 kk h2
theorem _root_.Go.au.R.NW {ι:Type} {C:Cx} {k:List KI} {S:ι→St} {Inv:ι→Prop} {μ:ι→Nat} {i:ι} (j:ι) (hj:Inv j) (hm:μ j<μ i):R C (.aP (Fam S Inv μ i)::k) (S j):=R.aP ⟨j,hj,hm,rfl⟩
theorem aay {tl:List bH} {p:Plan} {facts:List bF} (h:bJ tl p facts=0):(fZ facts p).length≤1000:=by
 obtain ⟨m,hm⟩:=rJ h
 unfold fZ
 rw [(rG _).length_eq,hm.ev,agd,adu]
 exact hm.clo.len
theorem aft (hhead:aT aai 10 [] [B true]) (tl:List bH) (p:Plan) (fs:List bF) (htl:∀ t∈tl,yB t∧t.attrs.length≤100000000) (ho:mZ p):aT aai 6 [.pd (schema tl),.pd (plan p),.pd (eY fs)] [B true]:=by
 have hsm:=LX tl p fs 10 (by decide)
 have hyes:∀ fs,bJ tl p fs=0→aT aai 13 [.pd (schema tl),.pd (gu p),.pd (eY fs)] [Eo (fZ fs p),I 0]:=fun fs h=>by
  have:=aan (facts:=fs) htl ho h
  rw [aJ p] at this; exact this
 have hno:∀ fs,bJ tl p fs≠0→aT aai 13 [.pd (schema tl),.pd (gu p),.pd (eY fs)] [iD,I (bJ tl p fs)]:=fun fs h=>by
  have:=aao (facts:=fs) htl ho h
  rw [aJ p] at this; exact this
 have hnamed:∀ t,aC aai 25 [.pd (gu p),.pd (I t)] [B (Ag t p)]:=fun t=>by
  have:=named_ok p t
  rw [aJ p] at this; exact this
 rw [aJ p] at hsm ⊢
 refine aT.mk axp rfl aoJ (by simp [Tryz.ntmps6]) fun w G=>?_
 refine aQk ?_
 refine R.kW (hhead) rfl rfl (.nil) ?_
 refine aQk ?_
 refine R.kC (hsm) rfl rfl (.cons (.pd _) (.cons (.pd _) (.cons (.pd _) (.cons (.pd _) (.nil))))) ?_
 cases hs:jZ tl p fs 10 with
 | false=>
  (refine aQl ?_)
  refine R.rW ?_
  rfl
 | true=>
 have apT:fs.length≤10:=by
  unfold jZ at hs
  simp only [af5,ap8,aqU] at hs
  have:=hs.1.1.2; omega
 refine aQl ?_
 refine R.ku 9 9 57 6 (by (simp only [go_sem])) rfl rfl ?_
 simp only [go_sem]
 have hw0:IntKind.i64.wrap ((fs.length:Int) - 1)=(fs.length:Int) - 1:=wrap64 (by omega) (by omega)
 have h0:(fs.drop fs.length).reverse.map KO=[]:=by rw [auM (aew _)]; rfl
 apply aj; simp only [go_sem,↓reduceIte,hw0]
 refine R.fU (fun (k:Nat) s=>St.lp [2,3,4,6,7,8] [(10,.pd (I ((k:Int) - 1))),(9,.own 9)] [3,4,18] [] [] [(9,⟨57,6,(fs.drop k).reverse.map KO⟩)] s) (fun (k:Nat)=>k≤fs.length) (fun (k:Nat)=>k) (fs.length) (by omega) ?_ (by (simp only [go_sem,h0]); all_goals (and_intros <;> rfl))
 rintro k hk
 rcases k with _ | j
 ·have e0:(((0:Nat):Int) - 1) = -1:=rfl
  apply aj; simp only [go_sem,↓reduceIte,e0,Int.reduceGE,Int.reduceNeg,aq1,Int.reduceLE,anq]
  refine R.bT 9 rfl rfl ?_
  simp only [go_sem]
  by_cases h1:bJ tl p fs=0
  ·by_cases h2:bJ tl p fs.reverse=0
   ·obtain ⟨hlen,hall⟩:=X5 h1 h2
    have hna:=O9 h1
    have hnb:=O9 h2
    obtain ⟨ma,hma⟩:=rJ h1
    obtain ⟨mb,hmb⟩:=rJ h2
    have hsa:=hma.size
    have hsb:=hmb.size
    have hla:=aay h1
    have z3:((0:Int) == 3)=false:=rfl
    have z0:((0:Int) != 0)=false:=rfl
    have zl:(((fZ fs p).length:Int) != ((fZ fs.reverse p).length:Int))=false:=by rw [hlen]; simp
    refine aQl ?_
    refine R.kW (hyes fs h1) rfl rfl (.cons (.pd _) (.cons (.pd _) (.cons (.pd _) (.nil)))) ?_
    refine aQl ?_
    refine R.kW (hyes fs.reverse h2) rfl rfl (.cons (.pd _) (.cons (.pd _) (.cons (.pd _) (.nil)))) ?_
    apply aj; simp only [go_sem,↓reduceIte,z3,z0,zl]
    generalize hA:fZ fs p=A at *
    generalize hB:fZ fs.reverse p=D at *
    refine R.fU (fun (i:Nat) s=>St.lp [2,4,7,8,11,13] [(15,.pd (I i))] [3,4] [] [] [] s) (fun (i:Nat)=>i≤A.length) (fun (i:Nat)=>A.length - i) (0) (by omega) ?_
    rintro i hi
    by_cases L9:i<A.length
    ·refine R.ac4 ?_ (R.NW (i+1) ?_ ?_)
     rotate_left
     ·(try dsimp only); omega
     ·(try dsimp only); omega
     intro kd hkd
     have yw:i<D.length:=by omega
     obtain ⟨hrow,hmin⟩:=hall i L9 yw
     obtain ⟨hs1,hs2⟩:=hsa _ (aaO L9)
     obtain ⟨ht1,ht2⟩:=hsb _ (aaO yw)
     have jm:=hna _ (aaO L9)
     have hwb:=hnb _ (aaO yw)
     have e1:decide ((i:Int)<(A.length:Int))=true:=by simp; omega
     apply aj; simp only [go_sem,↓reduceIte,e1]
     refine R.ku 16 16 53 2 (by (simp only [go_sem])) rfl rfl ?_
     simp only [go_sem]
     refine aQl ?_
     refine R.fU (fun (k:Nat) s=>St.lp [2,4,6,7,8,11,13,15] [(17,.pd (I k)),(16,.own 16)] [3,4] [] [] [(16,⟨53,2,((D[i].ways.take k).map (gy fs.length)).map way⟩)] s) (fun (k:Nat)=>k≤D[i].ways.length) (fun (k:Nat)=>D[i].ways.length - k) (0) (by omega) ?_
     rintro k hk
     by_cases hlk:k<D[i].ways.length
     ·refine R.ac4 ?_ (R.NW (k+1) ?_ ?_)
      rotate_left
      ·(try dsimp only); omega
      ·(try dsimp only); omega
      intro kc hkc
      have f1:decide ((k:Int)<(D[i].ways.length:Int))=true:=by simp; omega
      have hwk:=hwb _ (aaO hlk)
      have hlw:=ht2 _ (aaO hlk)
      unfold kM at hlw
      have hx:∀ x:Int,0≤x→x.toNat<fs.length→IntKind.i64.wrap ((fs.length:Int) - 1 - x)=jl fs.length x:=fun x h1 h2=>by rw [wrap64 (by omega) (by omega)]; rfl
      apply aj; simp only [go_sem,↓reduceIte,f1,getD_map,yw]
      repeat refine ⟨by omega,?_⟩
      refine R.LU 18 0 18 3 1 rfl rfl (by simp) rfl ?_
      simp only [go_sem]
      refine R.LU 18 1 19 3 1 rfl rfl (by simp) rfl ?_
      simp only [go_sem]
      refine aQl ?_
      refine R.fU (fun (m:Nat) s=>St.lp [2,4,6,7,8,11,13,15,16,17,18] [(19,.pd (I m))] [3,4] [(18,[.own 18,.own 19])] [16] [(18,⟨3,1,((D[i].ways[k].pos.take m).map (jl fs.length)).map I⟩),(19,⟨3,1,[]⟩)] s) (fun (m:Nat)=>m≤D[i].ways[k].pos.length) (fun (m:Nat)=>D[i].ways[k].pos.length - m) (0) (by omega) ?_
      rintro m hm
      by_cases hlm:m<D[i].ways[k].pos.length
      ·have f2:decide ((m:Int)<(D[i].ways[k].pos.length:Int))=true:=by simp; omega
       obtain ⟨hx0,hx1,_⟩:=hwk.1 _ (aaO hlm)
       rw [arY] at hx1
       have hxx:=hx _ hx0 hx1
       have hsn:((D[i].ways[k].pos.take (m+1)).map (jl fs.length)).map I=((D[i].ways[k].pos.take m).map (jl fs.length)).map I++[I (jl fs.length D[i].ways[k].pos[m])]:=by rw [aaG hlm,aei,aei]; rfl
       apply aj; simp only [go_sem,↓reduceIte,f2,getD_map,yw,hlk]
       repeat refine ⟨by omega,?_⟩
       refine R.dA 18 80 mixed (by decide +kernel) ?_; simp only [go_sem,getD_map,yw,hlk,hlm,hw0,hxx]
       repeat refine ⟨by omega,?_⟩
       refine R.dF 1000000000 8 rfl rfl (by (simp only [go_sem])) rfl rfl rfl rfl sl27 rfl EW (by simp) (congrArg (aiA af0) EX) rfl FU (by simp; omega) (by decide) (by decide) ?_
       apply aj; simp only [go_sem,↓reduceIte,wrapN (k:=m) (by omega)]
       refine R.fE (m+1) (by omega) (l:=by (simp only [go_sem,hsn]); all_goals (and_intros <;> rfl))
      ·have f2:decide ((m:Int)<(D[i].ways[k].pos.length:Int))=false:=by simp; omega
       have hke:D[i].ways[k].pos.take m=D[i].ways[k].pos:=adw (by omega)
       apply aj; simp only [go_sem,↓reduceIte,f2,getD_map,yw,hlk,hke]
       repeat refine ⟨by omega,?_⟩
       refine R.fU (fun (m:Nat) s=>St.lp [2,4,6,7,8,11,13,15,16,17,18] [(20,.pd (I m))] [3,4] [(18,[.own 18,.own 19])] [16,18] [(19,⟨3,1,((D[i].ways[k].neg.take m).map (jl fs.length)).map I⟩)] s) (fun (m:Nat)=>m≤D[i].ways[k].neg.length) (fun (m:Nat)=>D[i].ways[k].neg.length - m) (0) (by omega) ?_
       rintro m hm
       by_cases hlm:m<D[i].ways[k].neg.length
       ·have f2:decide ((m:Int)<(D[i].ways[k].neg.length:Int))=true:=by simp; omega
        obtain ⟨hx0,hx1,_⟩:=hwk.2 _ (aaO hlm)
        rw [arY] at hx1
        have hxx:=hx _ hx0 hx1
        have hsn:((D[i].ways[k].neg.take (m+1)).map (jl fs.length)).map I=((D[i].ways[k].neg.take m).map (jl fs.length)).map I++[I (jl fs.length D[i].ways[k].neg[m])]:=by rw [aaG hlm,aei,aei]; rfl
        apply aj; simp only [go_sem,↓reduceIte,f2,getD_map,yw,hlk]
        repeat refine ⟨by omega,?_⟩
        refine R.dA 18 80 mixed (by decide +kernel) ?_; simp only [go_sem,getD_map,yw,hlk,hlm,hw0,hxx]
        repeat refine ⟨by omega,?_⟩
        refine R.dF 1000000000 8 rfl rfl (by (simp only [go_sem])) rfl rfl rfl rfl sl27 rfl EW (by simp) (congrArg (aiA af0) EX) rfl FU (by simp; omega) (by decide) (by decide) ?_
        apply aj; simp only [go_sem,↓reduceIte,wrapN (k:=m) (by omega)]
        refine R.fE (m+1) (by omega) (l:=by (simp only [go_sem,hsn]); all_goals (and_intros <;> rfl))
       ·have f2:decide ((m:Int)<(D[i].ways[k].neg.length:Int))=false:=by simp; omega
        have hke2:D[i].ways[k].neg.take m=D[i].ways[k].neg:=adw (by omega)
        have hsn:((D[i].ways.take (k+1)).map (gy fs.length)).map way=((D[i].ways.take k).map (gy fs.length)).map way++[way (gy fs.length D[i].ways[k])]:=by rw [aaG hlk,aei,aei]; rfl
        apply aj; simp only [go_sem,↓reduceIte,f2,getD_map,yw,hlk,hke2]
        repeat refine ⟨by omega,?_⟩
        refine R.bT 18 rfl rfl ?_
        simp only [go_sem]
        refine R.bT 19 rfl rfl ?_
        simp only [go_sem]
        refine aQl ?_
        refine R.dF 1000000000000 48 rfl rfl (by (simp only [go_sem])) rfl rfl rfl rfl FV rfl BQ (by simp) (congrArg (aiA af0) FY) rfl FX (by simp; omega) (by decide) (by decide) ?_
        refine jv 8 _ _ ?_
        simp only [go_sem,↓reduceIte,wrapN (k:=k) (by omega)]
        refine R.to _ ?_ hkc
        ((simp only [go_sem,hsn,gy]))
        all_goals (and_intros <;> rfl)
     ·have f1:decide ((k:Int)<(D[i].ways.length:Int))=false:=by simp; omega
      have hke:D[i].ways.take k=D[i].ways:=adw (by omega)
      have okb:zJ (D[i].ways.map (gy fs.length)):=⟨by simp; omega,fun w hw=>by
       obtain ⟨v,hv,rfl⟩:=adE.1 hw
       have:=ht2 v hv
       unfold kM at this
       exact ⟨by simp [gy]; omega,by simp [gy]; omega⟩⟩
      have c0:(cZ A[i].row D[i].row != 0)=false:=by
       rw [hrow]
       have:=(dM.eq D[i].row D[i].row).2 rfl
       simp [this]
      apply aj; simp only [go_sem,↓reduceIte,f1,getD_map,yw,hke]
      repeat refine ⟨by omega,?_⟩
      refine R.bT 16 rfl rfl ?_
      simp only [go_sem]
      refine R.dA 20 80 mixed (by decide +kernel) ?_; simp only [go_sem,getD_map,L9,yw]
      repeat refine ⟨by omega,?_⟩
      refine RY.kC (afl A[i].row D[i].row) rfl rfl (.cons (.pd _) (.cons (.pd _) (.nil))) ?_
      (refine aZ 80 _ _ ?_; simp only [go_sem,c0,getD_map,L9])
      repeat refine ⟨by omega,?_⟩
      refine RY.Zr (rs:=[ways (bC (D[i].ways.map (gy fs.length)))]) (by rfl) rfl rfl rfl rfl (fun _=>⟨by simp [nK,Op.operands,Call.operands,aU,St.get,lk,SV.unbox],.cons (.pd _) .nil,vJ _ okb⟩) (by simp [plain,PD.plain]) (by (simp only [go_sem])) ?_
      rw [hmin]
      (refine aZ 80 _ _ ?_; simp only [go_sem])
      refine R.vH (rs:=[B (decide (A[i].ways=A[i].ways))]) rfl rfl rfl rfl (fun _=>⟨by simp [nK,Op.operands,Call.operands,aU,St.get,lk,SV.unbox],.cons (.pd _) (.cons (.pd _) .nil),wZ A[i].ways A[i].ways⟩) (by simp [plain,PD.plain]) (by (simp only [go_sem])) ?_
      rw [apd rfl]
      refine R.RU 185 (by (simp only [go_sem])) rfl (by simp [fC]) ?_
      simp only [go_sem]
      refine aQl ?_
      refine R.fU (fun (k:Nat) s=>St.lp [2,4,7,8,11,13,15] [(21,.pd (I k))] [3,4,18] [] [] [] s) (fun (k:Nat)=>k≤A[i].ways.length) (fun (k:Nat)=>A[i].ways.length - k) (0) (by omega) ?_
      rintro k hk
      by_cases hlk:k<A[i].ways.length
      ·refine R.ac4 ?_ (R.NW (k+1) ?_ ?_)
       rotate_left
       ·(try dsimp only); omega
       ·(try dsimp only); omega
       intro kc hkc
       have f1:decide ((k:Int)<(A[i].ways.length:Int))=true:=by simp; omega
       have hwk:=jm _ (aaO hlk)
       have hlw:=hs2 _ (aaO hlk)
       unfold kM at hlw
       have aey:∀ x∈A[i].ways[k].pos++A[i].ways[k].neg,Nmd fs p x:=fun x hx=>(agh.1 hx).elim (hwk.1 x) (hwk.2 x)
       have aoK:(A[i].ways[k].pos++A[i].ways[k].neg).length≤2000000:=by rw [aec]; omega
       apply aj; simp only [go_sem,↓reduceIte,f1,getD_map,L9]
       repeat refine ⟨by omega,?_⟩
       refine R.agx [1198] [some 1198,none,none,none,none,none,none,none,none,none,some 1198,none,none,none,none,none,none,none,none,none,some 1198] 60 mixed (by decide +kernel) (by decide +kernel) (fun q hq=>by rw [adJ.1 hq]; exact ⟨rfl,rfl,rfl⟩) ?_
       simp only [go_sem,KC,H8,vC,St.chain,er,afM,agq,apZ,aqS,auE,aq6,aqZ,agU]
       refine nM.empty (by simp) rfl rfl rfl rfl (by (simp only [go_sem])) sl27 (by rw [Oh,EW]; decide) (by rw [Oh,EX]; rfl) ?_
       refine Dh 60 _ _ ?_
       simp only [go_sem,KC,H8,vC,St.chain,er,afM,agq,apZ,aqS,auE,aq6,aqZ,agU,getD_map,L9,hlk]
       repeat refine ⟨by omega,?_⟩
       refine nM.append (by simp) rfl rfl rfl (by (simp only [go_sem])) rfl rfl rfl rfl sl27 rfl EW (by simp) (congrArg (aiA af0) EX) rfl (fun q hq=>by rw [getD_map _ _ _ (by simpa using hq)]; rfl) (by show _ * nJ aai 3≤_; rw [FU]; simp only [adu,agq]; omega) (by simp only [maxLen,adu,agq]; omega) ?_
       refine Dh 60 _ _ ?_
       simp only [go_sem,KC,H8,vC,St.chain,er,afM,agq,apZ,aqS,auE,aq6,aqZ,agU,getD_map,L9,hlk]
       repeat refine ⟨by omega,?_⟩
       refine nM.aeO (by simp) rfl rfl rfl (by (simp only [go_sem])) rfl rfl rfl rfl sl27 rfl EW (by simp) (congrArg (aiA af0) EX) rfl (fun q hq=>by rw [getD_map _ _ _ (by simpa using hq)]; rfl) (by show _ * nJ aai 3≤_; rw [FU]; simp only [adu,agq]; omega) (by simp only [maxLen,adu,agq]; omega) ?_
       refine Dh 60 _ _ ?_
       simp only [go_sem,KC,H8,vC,St.chain,er,afM,agq,apZ,aqS,auE,aq6,aqZ,agU]
       rw [← aei]
       generalize A[i].ways[k].pos++A[i].ways[k].neg=al at aey aoK
       refine aQl ?_
       refine R.fU (fun (m:Nat) s=>St.lp [2,4,7,8,11,13,15,21,22] [(23,.pd (I m))] [3,4,18] [] [] [] s) (fun (m:Nat)=>m≤al.length) (fun (m:Nat)=>al.length - m) (0) (by omega) ?_
       rintro m hm
       by_cases hlm:m<al.length
       ·have f2:decide ((m:Int)<(al.length:Int))=true:=by simp; omega
        obtain ⟨hx0,hx1,hx2⟩:=aey _ (aaO hlm)
        have d0:decide (al[m]<0)=false:=by simp; omega
        have d1:decide (al[m]≥(fs.length:Int))=false:=by simp; omega
        apply aj; simp only [go_sem,↓reduceIte,f2]
        have hxl:al[m]<(fs.length:Int):=by omega
        refine R.dA 23 5 mixed (by decide +kernel) ?_
        simp only [go_sem,getD_map,hlm,hx1]
        repeat (refine And.intro (by first | omega | (intro _; omega) | (intro _; exact ⟨hx0,hxl⟩)) ?_)
        refine aZ 5 _ _ ?_
        simp only [go_sem,getD_map,hlm,hx1]
        repeat (refine And.intro (by first | omega | (intro _; omega) | (intro _; exact ⟨hx0,hxl⟩)) ?_)
        refine aZ 5 _ _ ?_
        simp only [go_sem,getD_map,hlm,hx1]
        repeat (refine And.intro (by first | omega | (intro _; omega) | (intro _; exact ⟨hx0,hxl⟩)) ?_)
        refine aZ 5 _ _ ?_
        simp only [go_sem,getD_map,hlm,hx1]
        repeat (refine And.intro (by first | omega | (intro _; omega) | (intro _; exact ⟨hx0,hxl⟩)) ?_)
        refine aZ 5 _ _ ?_
        simp only [go_sem,getD_map,hlm,hx1]
        repeat (refine And.intro (by first | omega | (intro _; omega) | (intro _; exact ⟨hx0,hxl⟩)) ?_)
        simp only [d0,d1,aj9,ajs,asQ]
        refine R.vH (rs:=[B (Ag fs[al[m].toNat].table p)]) rfl rfl rfl rfl (fun _=>⟨by simp [nK,Op.operands,Call.operands,aU,St.get,lk,SV.unbox],.cons (.pd _) (.cons (.pd _) .nil),hnamed _⟩) (by simp [plain,PD.plain]) (by (simp only [go_sem])) ?_
        rw [hx2]
        refine R.RU 248 (by (simp only [go_sem])) rfl (by simp [fC]) ?_
        simp only [go_sem]
        apply aj; simp only [go_sem,↓reduceIte,wrapN (k:=m) (by omega)]
        refine R.fE (m+1) (by omega)
       ·have f2:decide ((m:Int)<(al.length:Int))=false:=by simp; omega
        refine jv 16 _ _ ?_
        simp only [go_sem,↓reduceIte,f2,wrapN (k:=k) (by omega)]
        refine R.to _ ?_ hkc
        ((simp only [go_sem]))
        all_goals (and_intros <;> rfl)
      ·have f1:decide ((k:Int)<(A[i].ways.length:Int))=false:=by simp; omega
       refine jv 20 _ _ ?_
       simp only [go_sem,↓reduceIte,f1,getD_map,L9,wrapN (k:=i) (by omega)]
       repeat refine ⟨by omega,?_⟩
       refine R.to _ ?_ hkd
       ((simp only [go_sem]))
       all_goals (and_intros <;> rfl)
    ·have e1:decide ((i:Int)<(A.length:Int))=false:=by simp; omega
     apply aj; simp only [go_sem,↓reduceIte,e1]
     refine R.rW ?_
     rfl
   ·by_cases h3:bJ tl p fs.reverse=3
    ·have z3:(bJ tl p fs.reverse == 3)=true:=by simpa using h3
     have z0:((0:Int) == 3)=false:=rfl
     refine aQl ?_
     refine R.kW (hyes fs h1) rfl rfl (.cons (.pd _) (.cons (.pd _) (.cons (.pd _) (.nil)))) ?_
     refine aQl ?_
     refine R.kW (hno fs.reverse h2) rfl rfl (.cons (.pd _) (.cons (.pd _) (.cons (.pd _) (.nil)))) ?_
     apply aj; simp only [go_sem,↓reduceIte,z3,z0]
     refine R.rW ?_
     rfl
    ·exact absurd ((O8 (by omega) h3).trans h1) h2
  ·by_cases h3:bJ tl p fs=3
   ·have z3:(bJ tl p fs == 3)=true:=by simpa using h3
    by_cases h2:bJ tl p fs.reverse=0
    ·refine aQl ?_
     refine R.kW (hno fs h1) rfl rfl (.cons (.pd _) (.cons (.pd _) (.cons (.pd _) (.nil)))) ?_
     refine aQl ?_
     refine R.kW (hyes fs.reverse h2) rfl rfl (.cons (.pd _) (.cons (.pd _) (.cons (.pd _) (.nil)))) ?_
     apply aj; simp only [go_sem,↓reduceIte,z3]
     refine R.rW ?_
     rfl
    ·refine aQl ?_
     refine R.kW (hno fs h1) rfl rfl (.cons (.pd _) (.cons (.pd _) (.cons (.pd _) (.nil)))) ?_
     refine aQl ?_
     refine R.kW (hno fs.reverse h2) rfl rfl (.cons (.pd _) (.cons (.pd _) (.cons (.pd _) (.nil)))) ?_
     apply aj; simp only [go_sem,↓reduceIte,z3]
     refine R.rW ?_
     rfl
   ·have z3:(bJ tl p fs == 3)=false:=by simpa using h3
    by_cases h4:bJ tl p fs.reverse=3
    ·have z4:(bJ tl p fs.reverse == 3)=true:=by simpa using h4
     refine aQl ?_
     refine R.kW (hno fs h1) rfl rfl (.cons (.pd _) (.cons (.pd _) (.cons (.pd _) (.nil)))) ?_
     refine aQl ?_
     refine R.kW (hno fs.reverse (by omega)) rfl rfl (.cons (.pd _) (.cons (.pd _) (.cons (.pd _) (.nil)))) ?_
     apply aj; simp only [go_sem,↓reduceIte,z3,z4]
     refine R.rW ?_
     rfl
    ·have ec:=O8 h3 h4
     have h2:bJ tl p fs.reverse≠0:=by omega
     have z4:(bJ tl p fs.reverse == 3)=false:=by simpa using h4
     have zne:(bJ tl p fs != bJ tl p fs.reverse)=false:=by simp [ec]
     have zl:(((0:Nat):Int) != ((0:Nat):Int))=false:=rfl
     have e4:decide (((0:Nat):Int)<((0:Nat):Int))=false:=rfl
     refine aQl ?_
     refine R.kW (hno fs h1) rfl rfl (.cons (.pd _) (.cons (.pd _) (.cons (.pd _) (.nil)))) ?_
     refine aQl ?_
     refine R.kW (hno fs.reverse h2) rfl rfl (.cons (.pd _) (.cons (.pd _) (.cons (.pd _) (.nil)))) ?_
     apply aj; simp only [go_sem,↓reduceIte,z3,z4,zne,zl]
     refine R.fU (fun (k:Nat) s=>St.lp [2,4,7,8,11,13] [(15,.pd (I k))] [3,4] [] [] [] s) (fun (k:Nat)=>k=0) (fun (k:Nat)=>0) (0) (rfl) ?_
     rintro k rfl
     apply aj; simp only [go_sem,↓reduceIte,e4]
     refine R.rW ?_
     rfl
 ·have e1:(((j+1:Nat):Int) - 1)=(j:Int):=by omega
  have hge:decide ((j:Int)≥0)=true:=by simp
  have hlt:j<fs.length:=by omega
  have hj1:IntKind.i64.wrap ((j:Int) - 1)=(j:Int) - 1:=wrap64 (by omega) (by omega)
  have hsn:(fs.drop j).reverse.map KO=(fs.drop (j+1)).reverse.map KO++[KO fs[j]]:=by rw [drop_cons hlt,List.reverse_cons,aei]; rfl
  apply aj; simp only [go_sem,↓reduceIte,e1,hge,getD_map,hlt]
  repeat refine ⟨by omega,?_⟩
  refine R.dF 1000000 80 rfl rfl (by (simp only [go_sem])) rfl rfl rfl rfl sl31 rfl agL (by simp) (congrArg (aiA af0) agN) rfl agM (by simp; omega) (by decide) (by decide) ?_
  apply aj; simp only [go_sem,↓reduceIte,hj1]
  refine R.fE j (by omega) (l:=by (simp only [go_sem,hsn]); all_goals (and_intros <;> rfl))
end Go.Proofs.Z
end
section
namespace Go.Proofs.YtjbhhddfaohdnaaGreatDoor
open Go.Proofs.Z
open Go Go.au
theorem waysFacts_card:Rows.WaysFactsUptoCardSaid:=aml fun tl p fs h1 h2=>aft VP tl p fs h1 h2
end Go.Proofs.YtjbhhddfaohdnaaGreatDoor
end
