/- A part of the proof. -/
import Derived.Test.YtjbhhddfaohdnaaGreatDoorPU1
import Derived.Test.YtjbhhddfaohdnaaGreatDoorPBd
import Derived.Test.YtjbhhddfaohdnaaGreatDoorPRb
import Derived.Lib.ItoaLen
set_option linter.all false
set_option linter.deprecated false
open Go.Lib renaming itoa→aqs,formatBool→asR
open Go.Proofs.Tryz renaming prog→aai
namespace Go.Proofs.Z
open Go Go.au Go.Proofs
set_option maxRecDepth 10000
set_option maxHeartbeats 4000000
theorem ZA:aH aai 200:=fun _ _=>by kernel_rfl
theorem aiu:aH aai 256:=fun _ _=>by kernel_rfl
theorem aiv:aH aai 257:=fun _ _=>by kernel_rfl
def iL (c:UInt8):List UInt8:=if c=34 then [92,34] else if c=92 then [92,92] else if c=10 then [92,110] else [c]
def bf (l:List UInt8):List UInt8:=l.flatMap iL
def qG (s:ByteArray):ByteArray:=str (34::(bf (bytes s)++[34]))
def bU (v:V):ByteArray:=if !dI v then ByteArray.empty else if v.kind=1 then qG v.text else if v.kind=2 then str (aqs v.n) else if v.kind=3 then str (64::aqs v.n) else if v.kind=4 then str (asR (v.n == 1)) else str [110,117,108,108]
theorem alc {w:World} {G:Pub} (h:Tab w G):Lib.TabIs aai w "internal/strconv.uint64pow10" .u64 Lib.pow10Tab:=by
 obtain ⟨_,e,d,hb⟩:=h
 unfold Lib.TabIs World.var?
 have hg:aai.globalNamed "internal/strconv.uint64pow10" = some TB:=by kernel_rfl
 rw [hg]
 simp only [Option.bind_some,hb]
 simp [TA,TV,Lib.pow10Tab]
theorem VA (n:Int) (h0:-9223372036854775808≤n) (h1:n≤9223372036854775807):aT aai 256 [.pd (I n)] [S (str (aqs n))]:=by
 refine ⟨aiu,fun w G vals hG hs hv=>?_⟩
 have e0:vals.getD 0 undef = .int .i64 n:=aN.aK (w:=w) (G:=G) (hv 0 (by simp))
 have vg:vals = #[.int .i64 n]:=by
  apply ar5
  ·simpa using hs
  ·intro i hi1 hi2
   have hsz:vals.size=1:=by simpa using hs
   match i,hi1 with
   | 0,_=>simpa [Array.getD,hsz] using e0
 rw [vg]
 refine (Tryz.strconv_Itoa n h0 h1 w (alc hG.tab)).mono ?_
 rintro e w' ⟨rfl,k,os,rfl⟩
 exact ⟨_,rfl,Rd.raw _ rfl,((⟨⟨rfl,rfl,rfl,aew _,fun _ _=>rfl⟩,auT _ _⟩:Go.au.Below w.heap.size w (w.drewN k)).trans (below_grow (w.drewN k) os)).toBelow⟩
theorem Xq (b:Bool):aT aai 257 [.pd (B b)] [S (str (asR b))]:=by
 refine ⟨aiv,fun w G vals hG hs hv=>?_⟩
 have e0:vals.getD 0 undef = .bool b:=aN.aK (w:=w) (G:=G) (hv 0 (by simp))
 have vg:vals = #[.bool b]:=by
  apply ar5
  ·simpa using hs
  ·intro i hi1 hi2
   have hsz:vals.size=1:=by simpa using hs
   match i,hi1 with
   | 0,_=>simpa [Array.getD,hsz] using e0
 rw [vg]
 refine (Tryz.strconv_FormatBool b w).mono ?_
 rintro e w' ⟨rfl,rfl⟩
 exact ⟨_,rfl,Rd.raw _ rfl,Go.RowKit.Below.refl _ _⟩
theorem NC (a b:List UInt8):str a++str b=str (a++b):=by
 apply bytes_inj
 simp [bytes]
theorem VB {v:V} (h:dI v=true):-1000000000≤v.n∧v.n≤1000000000:=by
 unfold dI AO at h
 repeat' split at h
 all_goals (simp at h; try omega)
theorem acf (v:V) (hk:v.kind≠1):aT aai 200 [.pd (val v)] [S (bU v)]:=by
 have hk1:(v.kind == 1)=false:=by simpa using hk
 refine aT.mk Tryz.func200 rfl ZA (by simp [Tryz.ntmps200]) fun w G=>?_
 (refine iY (cs:=[(4,.of (oO v))]) 80 _ _ ?_; simp only [go_sem,aau,SV.pd.injEq,hk1])
 refine ⟨fun h=>?_,fun h=>?_⟩
 ·have hv:bU v=ByteArray.empty:=by unfold bU; simp [h]
  rw [hv]
  refine aQk ?_
  refine R.rW ?_
  rfl
 have hval:dI v=true:=by simpa using h
 apply aB; simp only [go_sem,aau,SV.pd.injEq,hk1]
 have hn:=VB hval
 by_cases h2:v.kind=2
 ·have e2:(v.kind == 2)=true:=by simp [h2]
  have hv:bU v=str (aqs v.n):=by unfold bU; simp [hval,h2]
  rw [hv]
  apply aj; simp only [go_sem,↓reduceIte,e2]
  refine R.kW (VA v.n (by omega) (by omega)) rfl rfl (.cons (.pd _) (.nil)) ?_
  refine aQk ?_
  refine R.rW ?_
  rfl
 have e2:(v.kind == 2)=false:=by simpa using h2
 by_cases h3:v.kind=3
 ·have e3:(v.kind == 3)=true:=by simp [h3]
  have hv:bU v=str (64::aqs v.n):=by unfold bU; simp [hval,h3]
  rw [hv]
  apply aj; simp only [go_sem,↓reduceIte,e2,e3]
  refine R.kW (VA v.n (by omega) (by omega)) rfl rfl (.cons (.pd _) (.nil)) ?_
  have hil:=Lib.itoa_length_le v.n (by omega) (by omega)
  have hia:(⟨#[64]⟩:ByteArray)++str (aqs v.n)=str (64::aqs v.n):=NC [64] _
  apply ev8; simp only [go_sem,hia]
  refine ⟨?_,?_⟩
  ·have h5:(str (aqs v.n)).size=(aqs v.n).length:=rfl
   have h6:(⟨#[64]⟩:ByteArray).size=1:=rfl
   have h7:IntKind.i64.max=9223372036854775807:=rfl
   first | (rw [h5,h6,h7]; omega) | (rw [h7]; omega)
  refine R.rW ?_
  rfl
 have e3:(v.kind == 3)=false:=by simpa using h3
 by_cases h4:v.kind=4
 ·have e4:(v.kind == 4)=true:=by simp [h4]
  have hv:bU v=str (asR (v.n == 1)):=by unfold bU; simp [hval,h4]
  rw [hv]
  apply aj; simp only [go_sem,↓reduceIte,e2,e3,e4]
  refine R.kW (Xq (v.n == 1)) rfl rfl (.cons (.pd _) (.nil)) ?_
  refine aQk ?_
  refine R.rW ?_
  rfl
 have e4:(v.kind == 4)=false:=by simpa using h4
 have hv:bU v=str [110,117,108,108]:=by unfold bU; simp [hval,hk,h2,h3,h4]
 rw [hv]
 apply aj; simp only [go_sem,↓reduceIte,e2,e3,e4]
 refine R.rW ?_
 rfl
end Go.Proofs.Z
