/- A part of the proof. -/
import Derived.Test.YtjbhhddfaohdnaaGreatDoorPU1
import Derived.Test.YtjbhhddfaohdnaaGreatDoorPBd
import Derived.Test.YtjbhhddfaohdnaaGreatDoorPRb
import Derived.Lib.ItoaLen
set_option linter.all false
set_option linter.deprecated false
open Go.Lib renaming itoa→an6,formatBool→aqa
open Go.Proofs.Tryz renaming prog→abZ
namespace Go.Proofs.Z
open Go Go.au Go.Proofs
set_option maxRecDepth 10000
set_option maxHeartbeats 4000000
theorem Yr:aH abZ 200:=fun _ _=>by kernel_rfl
theorem agW:aH abZ 256:=fun _ _=>by kernel_rfl
theorem agX:aH abZ 257:=fun _ _=>by kernel_rfl
def iC (c:UInt8):List UInt8:=if c=34 then [92,34] else if c=92 then [92,92] else if c=10 then [92,110] else [c]
def aW (l:List UInt8):List UInt8:=l.flatMap iC
def pX (s:ByteArray):ByteArray:=str (34::(aW (bytes s)++[34]))
def bG (v:V):ByteArray:=if !dA v then ByteArray.empty else if v.kind=1 then pX v.text else if v.kind=2 then str (an6 v.n) else if v.kind=3 then str (64::an6 v.n) else if v.kind=4 then str (aqa (v.n == 1)) else str [110,117,108,108]
theorem ajU {w:World} {G:Pub} (h:Tab w G):Lib.TabIs abZ w "internal/strconv.uint64pow10" .u64 Lib.pow10Tab:=by
 obtain ⟨_,e,d,hb⟩:=h
 unfold Lib.TabIs World.var?
 have hg:abZ.globalNamed "internal/strconv.uint64pow10" = some TB:=by kernel_rfl
 rw [hg]
 simp only [Option.bind_some,hb]
 simp [TA,TV,Lib.pow10Tab]
theorem Uk (n:Int) (h0:-9223372036854775808≤n) (h1:n≤9223372036854775807):aS abZ 256 [.pd (I n)] [S (str (an6 n))]:=by
 refine ⟨agW,fun w G vals hG hs hv=>?_⟩
 have e0:vals.getD 0 undef = .int .i64 n:=aK.aJ (w:=w) (G:=G) (hv 0 (by simp))
 have uq:vals = #[.int .i64 n]:=by
  apply apz
  ·simpa using hs
  ·intro i hi1 hi2
   have hsz:vals.size=1:=by simpa using hs
   match i,hi1 with
   | 0,_=>simpa [Array.getD,hsz] using e0
 rw [uq]
 refine (Tryz.strconv_Itoa n h0 h1 w (ajU hG.tab)).mono ?_
 rintro e w' ⟨rfl,k,os,rfl⟩
 exact ⟨_,rfl,Rd.raw _ rfl,((⟨⟨rfl,rfl,rfl,ael _,fun _ _=>rfl⟩,asc _ _⟩:Go.au.Below w.heap.size w (w.drewN k)).trans (below_grow (w.drewN k) os)).toBelow⟩
theorem VL (b:Bool):aS abZ 257 [.pd (B b)] [S (str (aqa b))]:=by
 refine ⟨agX,fun w G vals hG hs hv=>?_⟩
 have e0:vals.getD 0 undef = .bool b:=aK.aJ (w:=w) (G:=G) (hv 0 (by simp))
 have uq:vals = #[.bool b]:=by
  apply apz
  ·simpa using hs
  ·intro i hi1 hi2
   have hsz:vals.size=1:=by simpa using hs
   match i,hi1 with
   | 0,_=>simpa [Array.getD,hsz] using e0
 rw [uq]
 refine (Tryz.strconv_FormatBool b w).mono ?_
 rintro e w' ⟨rfl,rfl⟩
 exact ⟨_,rfl,Rd.raw _ rfl,Go.RowKit.Below.refl _ _⟩
theorem LP (a b:List UInt8):str a++str b=str (a++b):=by
 apply bytes_inj
 simp [bytes]
theorem Ul {v:V} (h:dA v=true):-1000000000≤v.n∧v.n≤1000000000:=by
 unfold dA zL at h
 repeat' split at h
 all_goals (simp at h; try omega)
theorem aaY (v:V) (hk:v.kind≠1):aS abZ 200 [.pd (val v)] [S (bG v)]:=by
 have hk1:(v.kind == 1)=false:=by simpa using hk
 refine aS.mk Tryz.func200 rfl Yr (by simp [Tryz.ntmps200]) fun w G=>?_
 (refine jF (cs:=[(4,.of (nR v))]) 80 _ _ ?_; simp only [go_sem,ab1,SV.pd.injEq,hk1])
 refine ⟨fun h=>?_,fun h=>?_⟩
 ·have hv:bG v=ByteArray.empty:=by unfold bG; simp [h]
  rw [hv]
  refine aNF ?_
  refine R.rW ?_
  rfl
 have hval:dA v=true:=by simpa using h
 apply aA; simp only [go_sem,ab1,SV.pd.injEq,hk1]
 have hn:=Ul hval
 by_cases h2:v.kind=2
 ·have e2:(v.kind == 2)=true:=by simp [h2]
  have hv:bG v=str (an6 v.n):=by unfold bG; simp [hval,h2]
  rw [hv]
  apply ak; simp only [go_sem,↓reduceIte,e2]
  refine R.kW (Uk v.n (by omega) (by omega)) rfl rfl (.cons (.pd _) (.nil)) ?_
  refine aNF ?_
  refine R.rW ?_
  rfl
 have e2:(v.kind == 2)=false:=by simpa using h2
 by_cases h3:v.kind=3
 ·have e3:(v.kind == 3)=true:=by simp [h3]
  have hv:bG v=str (64::an6 v.n):=by unfold bG; simp [hval,h3]
  rw [hv]
  apply ak; simp only [go_sem,↓reduceIte,e2,e3]
  refine R.kW (Uk v.n (by omega) (by omega)) rfl rfl (.cons (.pd _) (.nil)) ?_
  have hil:=Lib.itoa_length_le v.n (by omega) (by omega)
  have hia:(⟨#[64]⟩:ByteArray)++str (an6 v.n)=str (64::an6 v.n):=LP [64] _
  apply ev8; simp only [go_sem,hia]
  refine ⟨?_,?_⟩
  ·have h5:(str (an6 v.n)).size=(an6 v.n).length:=rfl
   have h6:(⟨#[64]⟩:ByteArray).size=1:=rfl
   have h7:IntKind.i64.max=9223372036854775807:=rfl
   first | (rw [h5,h6,h7]; omega) | (rw [h7]; omega)
  refine R.rW ?_
  rfl
 have e3:(v.kind == 3)=false:=by simpa using h3
 by_cases h4:v.kind=4
 ·have e4:(v.kind == 4)=true:=by simp [h4]
  have hv:bG v=str (aqa (v.n == 1)):=by unfold bG; simp [hval,h4]
  rw [hv]
  apply ak; simp only [go_sem,↓reduceIte,e2,e3,e4]
  refine R.kW (VL (v.n == 1)) rfl rfl (.cons (.pd _) (.nil)) ?_
  refine aNF ?_
  refine R.rW ?_
  rfl
 have e4:(v.kind == 4)=false:=by simpa using h4
 have hv:bG v=str [110,117,108,108]:=by unfold bG; simp [hval,hk,h2,h3,h4]
 rw [hv]
 apply ak; simp only [go_sem,↓reduceIte,e2,e3,e4]
 refine R.rW ?_
 rfl
end Go.Proofs.Z
