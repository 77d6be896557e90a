/- A part of the proof. -/
import Derived.Laws.Pointers
import Derived.Laws.LoneSync
import Derived.RegionCalls
import Derived.ChangeAlike
import Derived.Laws.NewBlocks
import Derived.Test.YtgeljjfmcmbejaaGreatDoorProg
import Derived.Test.YtgeljjfmcmbejaaGreatDoorPThD
set_option linter.all false
set_option linter.deprecated false
open Go.Proofs.Tryz renaming prog→aa,underlying493→ry,underlying312→l0
set_option maxRecDepth 100000
set_option maxHeartbeats 4000000
namespace Go.Proofs.Z
def YA(w:World):(callFunc 429 #[]).run aa w= .ok (.value (.tuple #[])) w:=run_call_mark0 Tryz.func429 qq qq qq .disable qq w
def sR(w:World):(callFunc 431 #[]).run aa w= .ok (.value (.tuple #[])) w:=run_call_mark0 Tryz.func431 qq qq qq .enable qq w
def OK(a:Addr)(w:World):(callFunc 432 #[.pointer (some a)]).run aa w= .ok (.value (.tuple #[])) w:=run_call_marked Tryz.func432 qq qq qq .acquire qq a w
def DP(a:Addr)(w:World):(callFunc 434 #[.pointer (some a)]).run aa w= .ok (.value (.tuple #[])) w:=run_call_marked Tryz.func434 qq qq qq .releaseMerge qq a w
def store_deferred(a:Addr)(x:Value)(u:FrameMode)(w:World)(hc:w.cell? a=some x)(hz:w.frozen? a=false):
  CallsD aa 415 #[.pointer (some a),.bool true] u w λe u' w'=>u'=u/\(e= .returned (.tuple #[])/\w'=w.drew.setCell a (.int .u32 1)):=by
 have hc':w.drew.cell? a=some x:=by go_simp
 have hz':w.drew.frozen? a=false:=by go_simp
 have hst:=run_call_store (P:=aa) Tryz.func424 qq qq qq qq (k:=.u32) (y:=1) hc' hz'
 go_enter_d Tryz.func415,Tryz.ntmps415
 go_wp2
 go_region_calls
 all_goals(go_end0;exact⟨rfl,rfl⟩)
def DQ(a:Addr)(w:World)(hc:w.cell? a=some (.int .i32 1))(hz:w.frozen? a=false):
  Calls aa 423 #[.pointer (some a)] w λe w'=>e= .returned (.tuple #[])/\w'=w.setCell a (.int .i32 0):=by
 have hd:=YA;have he:=sR;have hr:=DP;have hadd:=run_call_add (P:=aa) Tryz.func435 qq qq qq .i32 qq (y:=-1) (s:=0) hc hz (by simp [go_sem];rfl);have hcv:=run_convert_to_unsafe (P:=aa) (src:=493) (dst:=312) ry l0 qq hc
 go_enter Tryz.func423,Tryz.ntmps423
 go_wp2
 go_end0
 exact⟨rfl,rfl⟩
def unlock_deferred(a:Addr)(u:FrameMode)(w:World)(hc:w.cell? a=some (.int .i32 1))(hz:w.frozen? a=false):
  CallsD aa 414 #[.pointer (some a)] u w λe u' w'=>u'=u/\(e= .returned (.tuple #[])/\w'=w.setCell a (.int .i32 0)):=by
 go_enter_d Tryz.func414,Tryz.ntmps414
 go_wp2_with (go_at_call 423;refine(DQ a _ hc hz).mono ?_;rintro e w' ⟨rfl,rfl⟩)
 go_end0
 exact⟨rfl,rfl⟩
def ON(a:Addr)(w:World)(hc:w.cell? a=some (.int .i32 0))(hz:w.frozen? a=false):
  Calls aa 422 #[.pointer (some a)] w λe w'=>e= .returned (.tuple #[])/\w'=w.setCell a (.int .i32 1):=by
 have hd:=YA;have he:=sR;have ha:=OK;have hcas:=run_call_cas_hit (P:=aa) Tryz.func430 qq qq qq .i32 qq (y:=1) hc hz;have hc':(w.setCell a (.int .i32 1)).cell? a=some (.int .i32 1):=World.cell?_setCell_same w a _ hc;have hcv:=run_convert_to_unsafe (P:=aa) (src:=493) (dst:=312) ry l0 qq hc'
 go_enter Tryz.func422,Tryz.ntmps422
 go_wp2
 first|go_end0|(simp only [Exit.inBlock,Exit.then];refine bodyPost_ret (results_none rfl _ _ _) rfl ?_)|refine bodyPost_ret (results_none rfl _ _ _) rfl ?_
 exact⟨rfl,rfl⟩
def lock_free(a:Addr)(w:World)(hc:w.cell? a=some (.int .i32 0))(hz:w.frozen? a=false):
  Calls aa 413 #[.pointer (some a)] w λe w'=>e= .returned (.tuple #[])/\w'=w.setCell a (.int .i32 1):=by
 go_enter Tryz.func413,Tryz.ntmps413
 go_wp2_with (go_at_call 422;refine(ON a _ hc hz).mono ?_;rintro e w' ⟨rfl,rfl⟩)
 go_end0
 exact⟨rfl,rfl⟩
structure Left(b:Nat)(Q:World->Prop)(w:World):Prop where
 q:Q w
 c0:w.cell? ⟨b,0,none⟩=some (.int .u32 0)
 c1:w.cell? ⟨b,1,none⟩=some (.int .i32 1)
 f0:w.frozen? ⟨b,0,none⟩=false
 f1:w.frozen? ⟨b,1,none⟩=false
def slow_any(b:Nat)(Q:World->Prop)(w:World)(h0:w.cell? ⟨b,0,none⟩=some (.int .u32 0))(h1:w.cell? ⟨b,1,none⟩=some (.int .i32 0))(f0:w.frozen? ⟨b,0,none⟩=false)(f1:w.frozen? ⟨b,1,none⟩=false)
  (hf:Calls aa 376 #[.pointer (some ⟨b,0,none⟩)] (w.setCell ⟨b,1,none⟩ (.int .i32 1)) λe w2=>e= .returned (.tuple #[])/\Left b Q w2):
  Calls aa 397 #[.pointer (some ⟨b,0,none⟩),.func (.func 376) #[.pointer (some ⟨b,0,none⟩)] #[]] w λe w'=>e= .returned (.tuple #[])/\∃w2,Q w2/\
   w'=(w2.drew.setCell ⟨b,0,none⟩ (.int .u32 1)).setCell ⟨b,1,none⟩ (.int .i32 0):=by
 have hl:=run_call_load (P:=aa) Tryz.func412 qq qq qq .u32 qq (w:=w.setCell ⟨b,1,none⟩ (.int .i32 1)) (a:=⟨b,0,none⟩) (x:=0) ((World.cell?_setCell_other _ ⟨b,1,none⟩ ⟨b,0,none⟩ _ qr).trans h0);have hnot:∀(x:Bool) (w:World),(Op.unary .not (.bool x)).run aa w= .ok (.bool (!x)) w:=λ_ _=>rfl
 go_enter_defers Tryz.func397,Tryz.ntmps397
 go_wp2_with (first|(go_at_call 413;refine(lock_free ⟨b,1,none⟩ _ (by go_simp) (by go_simp)).mono ?_;rintro e w' ⟨rfl,rfl⟩)|(go_at_call 396;go_in)|(go_at_call 376;refine hf.mono ?_;rintro e w2 ⟨rfl,hleft⟩))
 refine leaves_cons (f:=415) (args:=#[.pointer (some ⟨b,0,none⟩),.bool true]) qr (by simp [go_sem]) ?_;refine(store_deferred ⟨b,0,none⟩ (.int .u32 0) .returning _ hleft.c0 hleft.f0).mono ?_;rintro e u' w'' ⟨rfl,rfl,rfl⟩;refine leaves_cons (f:=414) (args:=#[.pointer (some ⟨b,1,none⟩)]) (by simp [settle]) (by simp [go_sem]) ?_;refine(unlock_deferred ⟨b,1,none⟩ _ _ ?_ (by simp [hleft.f1])).mono ?_
 ·refine(World.cell?_setCell_other _ ⟨b,0,none⟩ ⟨b,1,none⟩ _ qr).trans ?_
  rw [World.cell?_drew];exact hleft.c1
 rintro e u' w'' ⟨rfl,rfl,rfl⟩;simp [Leaves,settle,results,Tryz.results397];exact⟨w2,hleft.q,rfl⟩
def do_first(b:Nat)(Q:World->Prop)(w:World)(h0:w.cell? ⟨b,0,none⟩=some (.int .u32 0))(h1:w.cell? ⟨b,1,none⟩=some (.int .i32 0))(f0:w.frozen? ⟨b,0,none⟩=false)(f1:w.frozen? ⟨b,1,none⟩=false)
  (hf:Calls aa 376 #[.pointer (some ⟨b,0,none⟩)] (w.setCell ⟨b,1,none⟩ (.int .i32 1)) λe w2=>e= .returned (.tuple #[])/\Left b Q w2):
  Calls aa 375 #[.pointer (some ⟨b,0,none⟩),.func (.func 376) #[.pointer (some ⟨b,0,none⟩)] #[]] w λe w'=>e= .returned (.tuple #[])/\∃w2,Q w2/\
   w'=(w2.drew.setCell ⟨b,0,none⟩ (.int .u32 1)).setCell ⟨b,1,none⟩ (.int .i32 0):=by
 have hl:=run_call_load (P:=aa) Tryz.func412 qq qq qq .u32 qq h0;have hnot:∀(x:Bool) (w:World),(Op.unary .not (.bool x)).run aa w= .ok (.bool (!x)) w:=λ_ _=>rfl
 go_enter Tryz.func375,Tryz.ntmps375
 go_wp2_with (first|(go_at_call 397;refine(slow_any b Q _ h0 h1 f0 f1 hf).mono ?_;rintro e w' ⟨rfl,hq⟩)|(go_at_call 396;go_in))
 go_end0
 exact⟨rfl,hq⟩
end Go.Proofs.Z
