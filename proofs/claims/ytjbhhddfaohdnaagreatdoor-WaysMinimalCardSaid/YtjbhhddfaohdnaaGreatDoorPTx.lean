/- A part of the proof: Tx. -/
import Derived.Test.YtjbhhddfaohdnaaGreatDoorPU1
import Derived.Test.YtjbhhddfaohdnaaGreatDoorPBd
import Derived.Test.YtjbhhddfaohdnaaGreatDoorPRb
import Derived.Lib.ItoaLen
set_option linter.all false
set_option linter.deprecated false
namespace Go.Proofs.YtjbhhddfaohdnaaGreatDoor
open Go Go.Abs Go.Proofs
set_option maxRecDepth 10000
set_option maxHeartbeats 4000000
theorem ent200:Ent Tryz.prog 200:=fun args w=>(by kernel_rfl:(callFunc 200 args).run Tryz.prog w = .ok (.enter 200 args) w)
theorem ent256:Ent Tryz.prog 256:=fun args w=>(by kernel_rfl:(callFunc 256 args).run Tryz.prog w = .ok (.enter 256 args) w)
theorem ent257:Ent Tryz.prog 257:=fun args w=>(by kernel_rfl:(callFunc 257 args).run Tryz.prog w = .ok (.enter 257 args) w)
def replB (c:UInt8):List UInt8:=if c = 34 then [92,34] else if c = 92 then [92,92] else if c = 10 then [92,110] else [c]
def replL (l:List UInt8):List UInt8:=l.flatMap replB
def quoteB (s:ByteArray):ByteArray:=str (34 :: (replL (bytes s) ++ [34]))
def textV (v:V):ByteArray:=if !validV v then ByteArray.empty else if v.kind = 1 then quoteB v.text else if v.kind = 2 then str (Lib.itoa v.n) else if v.kind = 3 then str (64 :: Lib.itoa v.n) else if v.kind = 4 then str (Lib.formatBool (v.n == 1)) else str [110,117,108,108]
theorem tabIs {w:World} {G:Pub} (h:Tab w G):Lib.TabIs Tryz.prog w "internal/strconv.uint64pow10" .u64 Lib.pow10Tab:=by
 obtain ⟨_,e,d,hb⟩:=h
 unfold Lib.TabIs World.var?
 have hg:Tryz.prog.globalNamed "internal/strconv.uint64pow10" = some TB:=by kernel_rfl
 rw [hg]
 simp only [Option.bind_some,hb]
 simp [TA,TV,Lib.pow10Tab]
theorem itoa_ok (n:Int) (h0:-9223372036854775808 ≤ n) (h1:n ≤ 9223372036854775807):FnW Tryz.prog 256 [.pd (I n)] [S (str (Lib.itoa n))]:=by
 refine ⟨ent256,fun w G vals hG hs hv=>?_⟩
 have e0:vals.getD 0 undef = .int .i64 n:=RdV.raw_eq (w:=w) (G:=G) (hv 0 (by simp))
 have hvals:vals = #[.int .i64 n]:=by
  apply Array.ext
  ·simpa using hs
  ·intro i hi1 hi2
   have hsz:vals.size = 1:=by simpa using hs
   match i,hi1 with
   | 0,_=>simpa [Array.getD,hsz] using e0
 rw [hvals]
 refine (Tryz.strconv_Itoa n h0 h1 w (tabIs hG.tab)).mono ?_
 rintro e w' ⟨rfl,k,os,rfl⟩
 exact ⟨_,rfl,Rd.raw _ rfl,((⟨⟨rfl,rfl,rfl,Nat.le_refl _,fun _ _=>rfl⟩,Nat.le_add_right _ _⟩:Go.Abs.Below w.heap.size w (w.drewN k)).trans (below_grow (w.drewN k) os)).toBelow⟩
theorem fmtBool_ok (b:Bool):FnW Tryz.prog 257 [.pd (B b)] [S (str (Lib.formatBool b))]:=by
 refine ⟨ent257,fun w G vals hG hs hv=>?_⟩
 have e0:vals.getD 0 undef = .bool b:=RdV.raw_eq (w:=w) (G:=G) (hv 0 (by simp))
 have hvals:vals = #[.bool b]:=by
  apply Array.ext
  ·simpa using hs
  ·intro i hi1 hi2
   have hsz:vals.size = 1:=by simpa using hs
   match i,hi1 with
   | 0,_=>simpa [Array.getD,hsz] using e0
 rw [hvals]
 refine (Tryz.strconv_FormatBool b w).mono ?_
 rintro e w' ⟨rfl,rfl⟩
 exact ⟨_,rfl,Rd.raw _ rfl,Go.RowKit.Below.refl _ _⟩
theorem str_app (a b:List UInt8):str a ++ str b = str (a ++ b):=by
 apply bytes_inj
 simp [bytes]
theorem valid_n {v:V} (h:validV v = true):-1000000000 ≤ v.n∧v.n ≤ 1000000000:=by
 unfold validV inR at h
 repeat' split at h
 all_goals (simp at h; try omega)
theorem textN_ok (v:V) (hk:v.kind ≠ 1):FnW Tryz.prog 200 [.pd (val v)] [S (textV v)]:=by
 have hk1:(v.kind == 1) = false:=by simpa using hk
 refine FnW.mk Tryz.func200 rfl ent200 (by simp [Tryz.ntmps200]) fun w G=>?_
 (refine evC_ok (cs:=[(4,.of (valid_ok v))]) 80 _ _ ?_; simp only [go_sem,evC,ev2,con_f,con_args,con_rs,plainA,List.cons.injEq,SV.pd.injEq,hk1])
 refine ⟨fun h=>?_,fun h=>?_⟩
 ·have hv:textV v = ByteArray.empty:=by unfold textV; simp [h]
  rw [hv]
  (refine ev_ok 80 _ _ ?_; simp only [go_sem])
  refine R.retW (vc:=True) ?_ trivial
  rfl
 have hval:validV v = true:=by simpa using h
 (refine evC_ok (cs:=[]) 80 _ _ ?_; simp only [go_sem,evC,ev2,con_f,con_args,con_rs,plainA,List.cons.injEq,SV.pd.injEq,hk1])
 have hn:=valid_n hval
 by_cases h2:v.kind = 2
 ·have e2:(v.kind == 2) = true:=by simp [h2]
  have hv:textV v = str (Lib.itoa v.n):=by unfold textV; simp [hval,h2]
  rw [hv]
  (refine evL_ok 80 _ _ ?_; simp only [go_sem,↓reduceIte,e2])
  refine R.callW (by rfl) (itoa_ok v.n (by omega) (by omega)) rfl rfl (.cons (.pd _) (.nil)) (by simp [plain,PD.plain]) (by simp only [go_sem]) ?_
  (refine ev_ok 80 _ _ ?_; simp only [go_sem])
  refine R.retW (vc:=True) ?_ trivial
  rfl
 have e2:(v.kind == 2) = false:=by simpa using h2
 by_cases h3:v.kind = 3
 ·have e3:(v.kind == 3) = true:=by simp [h3]
  have hv:textV v = str (64 :: Lib.itoa v.n):=by unfold textV; simp [hval,h3]
  rw [hv]
  (refine evL_ok 80 _ _ ?_; simp only [go_sem,↓reduceIte,e2,e3])
  refine R.callW (by rfl) (itoa_ok v.n (by omega) (by omega)) rfl rfl (.cons (.pd _) (.nil)) (by simp [plain,PD.plain]) (by simp only [go_sem]) ?_
  have hil:=Lib.itoa_length_le v.n (by omega) (by omega)
  have hia:(⟨#[64]⟩:ByteArray) ++ str (Lib.itoa v.n) = str (64 :: Lib.itoa v.n):=str_app [64] _
  (refine ev_ok 80 _ _ ?_; simp only [go_sem,hia])
  refine ⟨?_,?_⟩
  ·have h5:(str (Lib.itoa v.n)).size = (Lib.itoa v.n).length:=rfl
   have h6:(⟨#[64]⟩:ByteArray).size = 1:=rfl
   have h7:IntKind.i64.max = 9223372036854775807:=rfl
   first | (rw [h5,h6,h7]; omega) | (rw [h7]; omega)
  refine R.retW (vc:=True) ?_ trivial
  rfl
 have e3:(v.kind == 3) = false:=by simpa using h3
 by_cases h4:v.kind = 4
 ·have e4:(v.kind == 4) = true:=by simp [h4]
  have hv:textV v = str (Lib.formatBool (v.n == 1)):=by unfold textV; simp [hval,h4]
  rw [hv]
  (refine evL_ok 80 _ _ ?_; simp only [go_sem,↓reduceIte,e2,e3,e4])
  refine R.callW (by rfl) (fmtBool_ok (v.n == 1)) rfl rfl (.cons (.pd _) (.nil)) (by simp [plain,PD.plain]) (by simp only [go_sem]) ?_
  (refine ev_ok 80 _ _ ?_; simp only [go_sem])
  refine R.retW (vc:=True) ?_ trivial
  rfl
 have e4:(v.kind == 4) = false:=by simpa using h4
 have hv:textV v = str [110,117,108,108]:=by unfold textV; simp [hval,hk,h2,h3,h4]
 rw [hv]
 (refine evL_ok 80 _ _ ?_; simp only [go_sem,↓reduceIte,e2,e3,e4])
 refine R.retW (vc:=True) ?_ trivial
 rfl
end Go.Proofs.YtjbhhddfaohdnaaGreatDoor
