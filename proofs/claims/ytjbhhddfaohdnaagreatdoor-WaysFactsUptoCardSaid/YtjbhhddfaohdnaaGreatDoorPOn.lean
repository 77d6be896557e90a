/- A part of the proof. -/
import Derived.Laws.Pointers
import Derived.Laws.LoneSync
import Derived.RegionCalls
import Derived.ChangeAlike
import Derived.Laws.NewBlocks
import Derived.Test.YtjbhhddfaohdnaaGreatDoorProg
import Derived.Test.YtjbhhddfaohdnaaGreatDoorPThD
set_option linter.all false
set_option linter.deprecated false
open Go.Proofs.Tryz renaming prog→aai,underlying372→aye,underlying353→aup
namespace Go.Proofs.Z
open Go Go.Proofs
set_option maxRecDepth 100000
set_option maxHeartbeats 1600000
theorem Vy (w:World):(callFunc 353 #[]).run aai w = .ok (.value (.tuple #[])) w:=run_call_mark0 Tryz.func353 (by kernel_rfl) (by kernel_rfl) (by kernel_rfl) .disable (by kernel_rfl) w
theorem Zt (w:World):(callFunc 355 #[]).run aai w = .ok (.value (.tuple #[])) w:=run_call_mark0 Tryz.func355 (by kernel_rfl) (by kernel_rfl) (by kernel_rfl) .enable (by kernel_rfl) w
theorem ae9 (a:Addr) (w:World):(callFunc 356 #[.pointer (some a)]).run aai w = .ok (.value (.tuple #[])) w:=run_call_marked Tryz.func356 (by kernel_rfl) (by kernel_rfl) (by kernel_rfl) .acquire (by kernel_rfl) a w
theorem Zu (a:Addr) (w:World):(callFunc 358 #[.pointer (some a)]).run aai w = .ok (.value (.tuple #[])) w:=run_call_marked Tryz.func358 (by kernel_rfl) (by kernel_rfl) (by kernel_rfl) .releaseMerge (by kernel_rfl) a w
theorem store_deferred (a:Addr) (x:Value) (u:FrameMode) (w:World) (hc:w.cell? a=some x) (hz:w.frozen? a=false):
  CallsD aai 334 #[.pointer (some a),.bool true] u w fun e u' w'=>u'=u∧(e = .returned (.tuple #[])∧w'=w.drew.setCell a (.int .u32 1)):=by
 have hc':w.drew.cell? a=some x:=by go_simp
 have hz':w.drew.frozen? a=false:=by go_simp
 have hst:=run_call_store (P:=aai) Tryz.func345 (by kernel_rfl) (by kernel_rfl) (by kernel_rfl) (by kernel_rfl) (k:=.u32) (y:=1) hc' hz'
 go_enter_d Tryz.func334,Tryz.ntmps334
 go_wp2
 go_region_calls
 all_goals (go_end0; exact ⟨rfl,rfl⟩)
theorem Zv (a:Addr) (w:World) (hc:w.cell? a=some (.int .i32 1)) (hz:w.frozen? a=false):
  Calls aai 344 #[.pointer (some a)] w fun e w'=>e = .returned (.tuple #[])∧w'=w.setCell a (.int .i32 0):=by
 have hd:=Vy
 have he:=Zt
 have hr:=Zu
 have hadd:=run_call_add (P:=aai) Tryz.func359 (by kernel_rfl) (by kernel_rfl) (by kernel_rfl) .i32 (by kernel_rfl) (y:=-1) (s:=0) hc hz (by simp [go_sem]; rfl)
 have hcv:=run_convert_to_unsafe (P:=aai) (src:=372) (dst:=353) aye aup (by kernel_rfl) hc
 go_enter Tryz.func344,Tryz.ntmps344
 go_wp2
 go_end0
 exact ⟨rfl,rfl⟩
theorem unlock_deferred (a:Addr) (u:FrameMode) (w:World) (hc:w.cell? a=some (.int .i32 1)) (hz:w.frozen? a=false):
  CallsD aai 333 #[.pointer (some a)] u w fun e u' w'=>u'=u∧(e = .returned (.tuple #[])∧w'=w.setCell a (.int .i32 0)):=by
 go_enter_d Tryz.func333,Tryz.ntmps333
 go_wp2_with (go_at_call 344; refine (Zv a _ hc hz).mono ?_; rintro e w' ⟨rfl,rfl⟩)
 go_end0
 exact ⟨rfl,rfl⟩
theorem afa (a:Addr) (w:World) (hc:w.cell? a=some (.int .i32 0)) (hz:w.frozen? a=false):
  Calls aai 343 #[.pointer (some a)] w fun e w'=>e = .returned (.tuple #[])∧w'=w.setCell a (.int .i32 1):=by
 have hd:=Vy
 have he:=Zt
 have ha:=ae9
 have hcas:=run_call_cas_hit (P:=aai) Tryz.func354 (by kernel_rfl) (by kernel_rfl) (by kernel_rfl) .i32 (by kernel_rfl) (y:=1) hc hz
 have hc':(w.setCell a (.int .i32 1)).cell? a=some (.int .i32 1):=World.cell?_setCell_same w a _ hc
 have hcv:=run_convert_to_unsafe (P:=aai) (src:=372) (dst:=353) aye aup (by kernel_rfl) hc'
 go_enter Tryz.func343,Tryz.ntmps343
 go_wp2
 first | go_end0 | (simp only [Exit.inBlock,Exit.then]; refine bodyPost_ret (results_none rfl _ _ _) rfl ?_) | refine bodyPost_ret (results_none rfl _ _ _) rfl ?_
 exact ⟨rfl,rfl⟩
theorem lock_free (a:Addr) (w:World) (hc:w.cell? a=some (.int .i32 0)) (hz:w.frozen? a=false):
  Calls aai 332 #[.pointer (some a)] w fun e w'=>e = .returned (.tuple #[])∧w'=w.setCell a (.int .i32 1):=by
 go_enter Tryz.func332,Tryz.ntmps332
 go_wp2_with (go_at_call 343; refine (afa a _ hc hz).mono ?_; rintro e w' ⟨rfl,rfl⟩)
 go_end0
 exact ⟨rfl,rfl⟩
structure Left (b:Nat) (Q:World→Prop) (w:World):Prop where
 q:Q w
 c0:w.cell? ⟨b,0,none⟩=some (.int .u32 0)
 c1:w.cell? ⟨b,1,none⟩=some (.int .i32 1)
 f0:w.frozen? ⟨b,0,none⟩=false
 f1:w.frozen? ⟨b,1,none⟩=false
theorem slow_any (b:Nat) (Q:World→Prop) (w:World) (h0:w.cell? ⟨b,0,none⟩=some (.int .u32 0)) (h1:w.cell? ⟨b,1,none⟩=some (.int .i32 0)) (f0:w.frozen? ⟨b,0,none⟩=false) (f1:w.frozen? ⟨b,1,none⟩=false)
  (hf:Calls aai 296 #[.pointer (some ⟨b,0,none⟩)] (w.setCell ⟨b,1,none⟩ (.int .i32 1)) fun e w2=>e = .returned (.tuple #[])∧Left b Q w2):
  Calls aai 321 #[.pointer (some ⟨b,0,none⟩),.func (.func 296) #[.pointer (some ⟨b,0,none⟩)] #[]] w fun e w'=>e = .returned (.tuple #[])∧∃ w2,Q w2 ∧
   w'=(w2.drew.setCell ⟨b,0,none⟩ (.int .u32 1)).setCell ⟨b,1,none⟩ (.int .i32 0):=by
 have hl:=run_call_load (P:=aai) Tryz.func331 (by kernel_rfl) (by kernel_rfl) (by kernel_rfl) .u32 (by kernel_rfl) (w:=w.setCell ⟨b,1,none⟩ (.int .i32 1)) (a:=⟨b,0,none⟩) (x:=0) ((World.cell?_setCell_other _ ⟨b,1,none⟩ ⟨b,0,none⟩ _ (by simp)).trans h0)
 have hnot:∀ (x:Bool) (w:World),(Op.unary .not (.bool x)).run aai w = .ok (.bool (!x)) w:=fun _ _=>rfl
 go_enter_defers Tryz.func321,Tryz.ntmps321
 go_wp2_with (first | (go_at_call 332; refine (lock_free ⟨b,1,none⟩ _ (by go_simp) (by go_simp)).mono ?_; rintro e w' ⟨rfl,rfl⟩) | (go_at_call 320; go_in) | (go_at_call 296; refine hf.mono ?_; rintro e w2 ⟨rfl,hleft⟩))
 refine leaves_cons (f:=334) (args:=#[.pointer (some ⟨b,0,none⟩),.bool true]) (by simp) (by simp [go_sem]) ?_
 refine (store_deferred ⟨b,0,none⟩ (.int .u32 0) .returning _ hleft.c0 hleft.f0).mono ?_
 rintro e u' w'' ⟨rfl,rfl,rfl⟩
 refine leaves_cons (f:=333) (args:=#[.pointer (some ⟨b,1,none⟩)]) (by simp [settle]) (by simp [go_sem]) ?_
 refine (unlock_deferred ⟨b,1,none⟩ _ _ ?_ (by simp [hleft.f1])).mono ?_
 ·refine (World.cell?_setCell_other _ ⟨b,0,none⟩ ⟨b,1,none⟩ _ (by simp)).trans ?_
  rw [World.cell?_drew]
  exact hleft.c1
 rintro e u' w'' ⟨rfl,rfl,rfl⟩
 simp [Leaves,settle,results,Tryz.results321]
 exact ⟨w2,hleft.q,rfl⟩
theorem do_first (b:Nat) (Q:World→Prop) (w:World) (h0:w.cell? ⟨b,0,none⟩=some (.int .u32 0)) (h1:w.cell? ⟨b,1,none⟩=some (.int .i32 0)) (f0:w.frozen? ⟨b,0,none⟩=false) (f1:w.frozen? ⟨b,1,none⟩=false)
  (hf:Calls aai 296 #[.pointer (some ⟨b,0,none⟩)] (w.setCell ⟨b,1,none⟩ (.int .i32 1)) fun e w2=>e = .returned (.tuple #[])∧Left b Q w2):
  Calls aai 295 #[.pointer (some ⟨b,0,none⟩),.func (.func 296) #[.pointer (some ⟨b,0,none⟩)] #[]] w fun e w'=>e = .returned (.tuple #[])∧∃ w2,Q w2 ∧
   w'=(w2.drew.setCell ⟨b,0,none⟩ (.int .u32 1)).setCell ⟨b,1,none⟩ (.int .i32 0):=by
 have hl:=run_call_load (P:=aai) Tryz.func331 (by kernel_rfl) (by kernel_rfl) (by kernel_rfl) .u32 (by kernel_rfl) h0
 have hnot:∀ (x:Bool) (w:World),(Op.unary .not (.bool x)).run aai w = .ok (.bool (!x)) w:=fun _ _=>rfl
 go_enter Tryz.func295,Tryz.ntmps295
 go_wp2_with (first | (go_at_call 321; refine (slow_any b Q _ h0 h1 f0 f1 hf).mono ?_; rintro e w' ⟨rfl,hq⟩) | (go_at_call 320; go_in))
 go_end0
 exact ⟨rfl,hq⟩
end Go.Proofs.Z
