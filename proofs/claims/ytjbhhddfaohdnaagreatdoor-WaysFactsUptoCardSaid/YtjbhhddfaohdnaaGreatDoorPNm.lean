/- A part of the proof. -/
import Derived.Test.YtjbhhddfaohdnaaGreatDoorPTt
set_option linter.all false
set_option linter.deprecated false
open Go.Lib renaming byteCells→aqu,byteCells_length→axl
open Go.Lib.BuilderAt renaming lt→atE
namespace Go.Proofs.Z
open Go Go.au Go.Proofs
set_option maxRecDepth 10000
set_option maxHeartbeats 1000000
theorem aiF:aH Tryz.prog 276:=fun _ _=>by kernel_rfl
theorem aiG:aH Tryz.prog 312:=fun _ _=>by kernel_rfl
theorem aiH:aH Tryz.prog 313:=fun _ _=>by kernel_rfl
theorem aiI:aH Tryz.prog 314:=fun _ _=>by kernel_rfl
def iO (row:List V):List UInt8:=row.flatMap fun v=>bytes (bU v)++[32]
def rowB (row:List V):ByteArray:=str (iO row)
theorem ZL (row:List V) (v:V):iO (row++[v])=iO row++bytes (bU v)++[32]:=by simp [iO]
theorem ZM (row:List V) (k:Nat):(iO (row.take k)).length≤(iO row).length:=by
 have:iO row=iO (row.take k)++iO (row.drop k):=by unfold iO; rw [← aru,aj8]
 rw [this,aec]; omega
theorem ZN {α:Type} {t:Nat} {x:α}:∀ {l:List (Nat × α)},lk t l=some x→(t,x)∈l
 | [],h=>by simp [lk] at h
 | (j,y)::l,h=>by
  simp only [lk] at h
  split at h
  ·rename_i e; subst e; cases h; exact aeC ..
  ·exact aej _ (ZN h)
theorem _root_.Go.au.Seg.weak {P:Program} {w:World} {G:Pub} {s s':St} {a:Act} {df:List Deferred} (h:Seg P w G s a df) (hn:s'.n=s.n) (hl:CZ s s'.slots) (ho:∀ p∈s'.slots,∃ d,p.2 = .pd d) (hb:s'.vars=[]∧s'.rows=[]∧s'.maps=[]∧s'.gs=[]):Seg P w G s' a df where
 size:=h.size.trans hn.symm
 defers:=h.defers
 good:=h.good
 slots:=fun t d ht=>by
  unfold St.get at ht
  cases e:lk t s'.slots with
  | none=>rw [e] at ht; cases ht
  | some x=>
   rw [e] at ht
   simp only [Option.getD_some] at ht
   subst ht
   exact h.slots t d (MW hl t _ e)
 only:=fun t=>by
  unfold St.get
  cases e:lk t s'.slots with
  | none=>exact .inr rfl
  | some x=>
   obtain ⟨d,hd⟩:=ho (t,x) (ZN e)
   exact .inl ⟨d,hd⟩
 bare:=hb
theorem _root_.Go.au.R.acz {C:Cx} {s:St} {all:Array Oper} {l:List Oper} {k:List KI} {o:Oper} {t:TypeId} {d:Nat} {zs:List Value} (ho:o.op = .alloc t) (hg:o.guard=none) (hd:o.dst=some d) (hz:bM C.P t=some zs)
  (next:∀ a w E,aF C s a w E→wpList C.P all (fin C k) l (a.put (some d) (.pointer (some ⟨w.heap.size,0,none⟩))) (w.alloc (.cells zs.toArray t))):R C (.ops all (o::l)::k) s:=by
 intro a w E g
 refine wpList_plain hg fun K hK=>?_
 obtain ⟨z,Fq,hzc⟩:=xA (P:=C.P) (w:=w) hz
 have hcells:z.cells=zs.toArray:=by rw [← hzc]
 unfold Oper.wp execOp
 simp only [ho,Sem.run_bind,Instr.alloc,Fq,Result.andThen_ok,Sem.run_pure,newVar,newRow,run_newObj,Oper.upon_value,hcells,hd]
 exact hK _ _ (next a w E g)
theorem _root_.Go.au.R.JD {C:Cx} {s:St} {all:Array Oper} {l:List Oper} {k:List KI} {o:Oper} {f:FuncId} {xs:Array Operand} {ts:Array TypeId} (ho:o.op = .call ⟨.value (.func f),xs,ts⟩) (hg:o.guard=none) (he:aH C.P f)
  (next:∀ a w E,aF C s a w E→Calls C.P f (xs.map a.eval) w fun e w'=>∃ v,e = .returned v∧wpList C.P all (fin C k) l (a.put o.dst v) w'):R C (.ops all (o::l)::k) s:=by
 intro a w E g
 refine wpList_plain hg fun K hK=>?_
 have hrun:=iF (P:=C.P) (w:=w) he a.eval o (.func f) xs ts #[] ho #[] rfl
 unfold Oper.wp
 rw [hrun,Oper.upon_enter]
 have:=next a w E g
 simp only [arA,avE]
 refine this.mono ?_
 rintro e w' ⟨v,rfl,h⟩
 exact hK _ _ h
structure NI (w0:World) (b:Nat) (p:Value) (l:List UInt8) (w:World) (G:Pub):Prop where
 at_:vO b p (aqu l) w
 acA:p = .pointer none∨p=ptr b
 low:w0.heap.size≤b
 new:∀ q,uw w b q→b≤q∧∀ o,¬ G q o
 below:Go.RowKit.Below w0.heap.size w0 w
theorem NI.kept {w0 w w':World} {b:Nat} {p:Value} {l:List UInt8} {G G':Pub} (h:NI w0 b p l w G) (hk:Kept false (fun _=>False) w w') (hN:∀ q o,G' q o→G q o∨w.heap.size≤q):NI w0 b p l w' G':=by
 have hb:∀ q,q<w.heap.size→w'.heap[q]? = w.heap[q]?:=fun q hq=>hk.block q hq (fun h=>h)
 have hbk:∀ q,uw w' b q→uw w b q:=by
  rintro q (rfl | ⟨p',v',h1,h2⟩)
  ·exact .inl rfl
  ·rw [hb b (atE h.at_)] at h1; exact .inr ⟨p',v',h1,h2⟩
 refine ⟨?_,h.acA,h.low,fun q hq=>⟨(h.new q (hbk q hq)).1,fun o ho=>?_⟩,h.below.trans ⟨hk.os,hk.tape,hk.output,hk.size,fun q hq=>hb q (ajq hq h.below.size)⟩⟩
 ·have hlt:=atE h.at_
  obtain ⟨h0,v,h1,h2,h3⟩:=h.at_
  refine ⟨h0,v,(hb b hlt).trans h1,?_,h3⟩
  refine ⟨h2.1,?_⟩
  rcases h2.2 with h4 | ⟨g,cap,cur,e1,e2,e3,e4⟩
  ·exact .inl h4
  ·exact .inr ⟨g,cap,cur,e1,e2,(hb g (ad6.1 e3).1).trans e3,e4⟩
 ·rcases hN q o ho with h1 | h1
  ·exact (h.new q (hbk q hq)).2 o h1
  ·have:=vO.block h.at_ (hbk q hq); omega
theorem NI.fine {w0 w w':World} {b:Nat} {p:Value} {l l':List UInt8} {G:Pub} (h:NI w0 b p l w G) (hat:vO b (ptr b) (aqu l') w') (hf:Fine b w w') (hG:∀ q o,G q o→q<w.heap.size):NI w0 b (ptr b) l' w' G:=by
 have hlt:=atE h.at_
 have hlo:=h.low
 refine ⟨hat,.inr rfl,h.low,fun q hq=>?_,h.below.trans ⟨hf.os,hf.tape,hf.output,hf.size,fun q hq=>hf.block q (ajq hq h.below.size) (fun hb=>by have:=(h.new q hb).1; omega)⟩⟩
 rcases hf.next q hq with h1 | h1
 ·exact h.new q h1
 ·exact ⟨by omega,fun o ho=>by have:=hG q o ho; omega⟩
theorem NI.keeps {w0 w w':World} {b:Nat} {p:Value} {l:List UInt8} {G:Pub} (h:NI w0 b p l w G) (hf:Fine b w w') (hG:∀ q o,G q o→q<w.heap.size):Keeps w G w' G:=
 ⟨fun _ _ h=>h,fun q o g=>World.cell?_of_block (a:=⟨q,o,none⟩) (hf.block q (hG q o g) (fun hb=>(h.new q hb).2 o g)),fun q o g=>hf.block q (hG q o g) (fun hb=>(h.new q hb).2 o g)⟩
theorem E8 (l m:List UInt8):aqu (l++m)=aqu l++aqu m:=by simp [aqu]
theorem vO.raise {B b:Nat} {p:Value} {bs:List Value} {w:World} (h:vO b p bs w) (hB:∀ q,uw w b q→B≤q):Lib.BuilderAt 313 5 B b p bs w:=by
 obtain ⟨h0,v,h1,h2,h3⟩:=h
 refine ⟨hB b (.inl rfl),v,h1,⟨h2.1,?_⟩,h3⟩
 rcases h2.2 with h4 | ⟨g,cap,cur,e1,e2,e3⟩
 ·exact .inl h4
 ·exact .inr ⟨g,cap,cur,e1,hB g (.inr ⟨p,v,h1,by rw [e1]; rfl⟩),e3⟩
theorem bc32:aqu [32]=[Value.int .u8 32]:=by simp [aqu]
def nmS (row:List V) (b k:Nat):St:=⟨18,[(3,.pd (.raw (ptr b))),(6,.pd (vals row)),(7,.pd (I row.length)),(8,.pd (I k))],[],[],[],[]⟩
theorem Xx (row:List V) (hl:row.length≤1000000000) (hb:(iO row).length≤100000000000):aT Tryz.prog 276 [.pd (vals row)] [S (rowB row)]:=by
 refine aT.mk Tryz.func276 rfl aiF (by simp [Tryz.ntmps276]) fun w0 G0=>?_
 refine R.seq ?_
 (refine aA 4 _ _ ?_; simp only [go_sem])
 refine R.region (R.acz rfl rfl rfl adM ?_)
 intro a w E g
 generalize hbb:w.heap.size=b
 have hlow:w0.heap.size≤b:=by rw [← hbb]; exact g.kept.size
 have hTB:TB<b:=by rw [← hbb]; exact g.gw _ _ g.tab.1
 have hni:NI w0 b (.pointer none) [] (w.alloc (.cells [Value.pointer none,Value.slice none 0 0].toArray 313)) E.G:=by
  have hnew:(w.alloc (.cells [Value.pointer none,Value.slice none 0 0].toArray 313)).heap[b]? = some (.cells #[Value.pointer none,Value.slice none 0 0] 313 (0,0)):=by rw [← hbb]; exact heap_alloc_new w _
  refine ⟨⟨arI _,.slice none 0 0,hnew,World.ownsRow_nil _ _ _ _,by simp [Value.ownBlock]⟩,.inl rfl,hlow,?_,?_⟩
  ·rintro q (rfl | ⟨p',v',h1,h2⟩)
   ·exact ⟨aew _,fun o ho=>by have:=g.gw _ _ ho; omega⟩
   ·rw [hnew] at h1; cases h1; cases h2
  ·have h1:Go.RowKit.Below w0.heap.size w0 w:=g.kept.y8
   exact h1.alloc h1.size _
 have hseg:=(g.H6.keep (Keeps.of_below g.gw (dQ w (.cells [Value.pointer none,Value.slice none 0 0].toArray 313)) (fun _ _ h=>h)) (fun b o h=>by have:=g.gw b o h; simp; omega)).put (t:=3) (v:=ptr b) (d:=.raw (ptr b)) (by (simp only [go_sem,St.pure])) (Rd.raw _ rfl)
 refine R.swK (k:=[_]) rfl hseg ?_
 simp only [St.pure,ads,adG,SV.pure]
 refine aQk ?_
 clear hseg
 generalize w.alloc (.cells [Value.pointer none,Value.slice none 0 0].toArray 313)=w1 at hni
 generalize E.G=G1 at hni
 clear g hbb
 refine R.loopS (fun n a w=>∃ k G p,n=row.length - k∧k≤row.length∧NI w0 b p (iO (row.take k)) w G∧Seg Tryz.prog w G (nmS row b k) a []) row.length ?_ ?_
 ·intro a w E g
  refine ⟨0,E.G,.pointer none,rfl,by omega,hni.kept g.kept (fun q o h=>g.g1 q o h),g.H6.weak rfl ?_ ?_ ⟨rfl,rfl,rfl,rfl⟩⟩
  ·simp only [nmS,CZ,St.D7]
   exact ⟨rfl,rfl,rfl,rfl,trivial⟩
  ·simp [nmS]
 ·rintro n a w ⟨k,G,p,rfl,hk,hni,hseg⟩
  refine QO hseg ?_
  unfold nmS
  apply aB; simp only [go_sem,aau,SV.pd.injEq]
  refine ⟨fun h=>?_,fun h=>?_⟩
  ·have hlt:k<row.length:=by simpa using h
   apply aB; simp only [go_sem,aau,SV.pd.injEq,getD_map,hlt]
   repeat refine ⟨by omega,?_⟩
   have hsn:iO (row.take (k+1))=iO (row.take k)++bytes (bU row[k])++[32]:=by rw [aaG hlt,ZL]
   have hlen:=ZM row (k+1)
   rw [hsn,aec,aec] at hlen
   have hsz:(bytes (bU row[k])).length=(bU row[k]).size:=Array.length_toList
   simp only [List.length_cons,List.length_nil] at hlen
   refine R.kW (VH row[k]) rfl rfl (.cons (.pd _) (.nil)) ?_
   simp only [go_sem]
   refine R.JD rfl rfl aiG fun a' w' E' g'=>?_
   have yj:=hni.kept g'.kept (fun q o h=>g'.g1 q o h)
   have e3:a'.eval (.tmp 3)=ptr b:=aN.aK (g'.slots 3)
   have e13:a'.eval (.tmp 13) = .string (bU row[k]):=aN.aK (g'.slots 13)
   simp only [apo,ads,adG,e3,e13]
   refine (aip b p _ (bU row[k]) w' yj.acA yj.at_ (by rw [axl]; omega)).mono ?_
   rintro e w'' ⟨rfl,hat,hf⟩
   have hat:vO b (ptr b) (aqu (iO (row.take k)++bytes (bU row[k]))) w'':=by rw [E8]; exact hat
   have Ey:=yj.fine hat hf g'.gw
   have La:=((g'.H6).keep (yj.keeps hf g'.gw) (fun q o h=>ajq (g'.gw q o h) hf.size)).kill (t:=14) (by (simp only [go_sem,St.pure])) (.tuple #[.int .i64 (bU row[k]).size,.nilIface])
   refine ⟨_,rfl,R.sw rfl La ?_⟩
   clear La yj hni hseg g' hat hf e3 e13
   simp only [St.pure,ads,adG,SV.pure]
   refine aQk ?_
   refine R.JD rfl rfl aiH fun a' w3 E' g'=>?_
   have yj:=Ey.kept g'.kept (fun q o h=>g'.g1 q o h)
   have e3:a'.eval (.tmp 3)=ptr b:=aN.aK (g'.slots 3)
   have ec:a'.eval (.const (.int .u8 32)) = .int .u8 32:=rfl
   simp only [apo,ads,adG,e3,ec]
   have hlb:(aqu (iO (row.take k)++bytes (bU row[k]))).length+1≤140737488355328:=by rw [axl,aec]; omega
   have hby:=afc b (ptr b) (aqu (iO (row.take k)++bytes (bU row[k]))) 32 w3 (.inr rfl) yj.at_ hlb
   refine hby.mono ?_
   rintro e w4 ⟨rfl,hat,hf⟩
   have hat:vO b (ptr b) (aqu (iO (row.take (k+1)))) w4:=by rw [hsn,E8,bc32]; exact hat
   have aob:=yj.fine hat hf g'.gw
   have La:=((g'.H6).keep (yj.keeps hf g'.gw) (fun q o h=>ajq (g'.gw q o h) hf.size)).kill (t:=15) (by (simp only [go_sem,St.pure])) .nilIface
   refine ⟨_,rfl,R.sw rfl La ?_⟩
   clear La yj Ey g' hat hf e3
   simp only [St.pure,ads,adG,SV.pure]
   apply ev8; simp only [go_sem,wrapN (k:=k) (by omega)]
   refine R.over fun a' w5 E' g'=>?_
   refine ⟨row.length - (k+1),by omega,k+1,E'.G,ptr b,rfl,by omega,aob.kept g'.kept (fun q o h=>g'.g1 q o h),g'.H6.weak rfl ?_ ?_ ⟨rfl,rfl,rfl,rfl⟩⟩
   ·simp only [CZ,St.D7]
    exact ⟨rfl,rfl,rfl,rfl,trivial⟩
   ·simp
  ·have hge:¬ k<row.length:=by simpa using h
   rw [adw (by omega)] at hni
   refine aQk ?_
   refine R.MX rfl fun a' w' E' g'=>?_
   have yj:=hni.kept g'.kept (fun q o h=>g'.g1 q o h)
   refine sW (id:=0) rfl a' w' (R.swK rfl g'.H6 ?_)
   clear hni hseg
   simp only [St.pure,ads,adG,SV.pure]
   refine aQk ?_
   refine R.JD rfl rfl aiI fun a2 w2 E2 g2=>?_
   have Ey:=yj.kept g2.kept (fun q o h=>g2.g1 q o h)
   have e3:a2.eval (.tmp 3)=ptr b:=aN.aK (g2.slots 3)
   simp only [apo,ads,adG,e3]
   have hB:Lib.IsBuilder 313 5 b b (aqu (iO row)) w2:=by
    have:=Ey.at_.raise (B:=b) (fun q hq=>(Ey.new q hq).1)
    rcases Ey.acA with hp | hp
    ·exact .inl (by rw [hp] at this; exact this)
    ·exact .inr (by rw [hp] at this; exact this)
   have hbs:b≤w2.heap.size:=Nat.le_of_lt (atE Ey.at_)
   refine (Tryz.Builder_String_any b b (iO row) w2 hB hbs).mono ?_
   rintro e w3 ⟨rfl,hbel⟩
   have hgood:Go.au.Good w3 (fun q o=>q=TB∧o=0):=by
    obtain ⟨_,te,td,htb⟩:=g2.tab
    exact ⟨fun q o h=>by rw [h.1]; exact ajq hTB (ajk hbs hbel.size),⟨rfl,rfl⟩,te,td,(hbel.block TB hTB).trans htb⟩
   have ale:Seg Tryz.prog w3 (fun q o=>q=TB∧o=0) ⟨18,[],[],[],[],[]⟩ a2 []:=⟨g2.size,g2.defers,hgood,fun t d h=>by simp [St.get,lk] at h,fun t=>.inr rfl,rfl,rfl,rfl,rfl⟩
   have alf:=ale.put (t:=17) (by simp) (v:=.string (rowB row)) (d:=S (rowB row)) (Rd.raw _ rfl)
   refine ⟨_,rfl,R.sw rfl alf ?_⟩
   simp only [St.set,up]
   refine aQk ?_
   refine R.ret fun a5 w5 E5 g5=>?_
   have hv:a5.tmps.getD 2 undef = .string (rowB row):=aN.aK (g5.slots 2)
   have alg:Go.RowKit.Below w3.heap.size w3 w5:=g5.kept.y8
   have aed:=Ey.below.trans (hbel.mono Ey.low)
   refine ⟨g5.defers,.string (rowB row),?_,.string (rowB row),rfl,Rd.raw _ rfl,aed.trans (alg.mono aed.size)⟩
   rw [iW (vs:=[.string (rowB row)]) (by show (([ResultVar.tmp 2]:List ResultVar).mapM (pX a5.tmps)).run _ _=_; simp [pX,hv])]; rfl
end Go.Proofs.Z
