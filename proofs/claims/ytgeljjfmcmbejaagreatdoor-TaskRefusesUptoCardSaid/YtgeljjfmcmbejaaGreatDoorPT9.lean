/- A part of the proof. -/
import Derived.Shelf.Strings.OnBuilder
import Derived.Shelf.Small.Wraps
import Derived.Shelf.Strings.BuilderK
import Derived.Shelf.Utf8.RuneCount
import Derived.Shelf.Strconv.Itoa3
import Derived.Shelf.Strconv.ErrVarAll
import Derived.Shelf.Strings.Shaped
import Derived.Shelf.Sort.Plain
import Derived.Shelf.Strconv.AppendIntPublic10
import Derived.Shelf.Strings.Split
import Derived.Shelf.Strings.RuneCount
import Derived.Shelf.Slices.Clone
import Derived.Shelf.Slices.Cells
import Derived.Shelf.Slices.In.SortNone
import Derived.Shelf.Slices.Empties
import Derived.Test.YtgeljjfmcmbejaaGreatDoorPSort1
import Derived.Test.YtgeljjfmcmbejaaGreatDoorPSqi
set_option linter.all false
set_option linter.deprecated false
open Go.Lib renaming compact→cR,compactUpTo→B7,keeps→fY,keeps_lt_one→B6,compact_length_le→iu
open Go.Proofs.Tryz renaming prog→aa
set_option maxRecDepth 100000
set_option maxHeartbeats 4000000
namespace Go.Proofs
open Go.Shelf
def Tryz.lays169_ren:Go.Shelf.Ren:=⟨λ|169=>94|n=>n,λ|70=>181|9=>9|0=>0|72=>183|37=>174|127=>252|3=>3|5=>5|n=>n,λ|n=>n⟩
def Tryz.lays169:Go.Proofs.Lays.n169 aa Tryz.lays169_ren:=qt
def Tryz.Builder_Extra_169:Builder.Extra aa Tryz.lays169_ren:=by constructor<;>first|kernel_rfl|(intro;kernel_rfl)|exact by decide|(constructor<;>first|kernel_rfl|(intro;kernel_rfl)|exact by decide)
open Go.RowKit in
def Tryz.Builder_String_any(B b:Nat)(l:List UInt8)(w:World)(h:Lib.IsBuilder 183 5 B b (Lib.byteCells l) w)(H:B<=w.heap.size):
  Calls aa 94 #[.pointer (some ⟨b,0,none⟩)] w λe w'=>e= .returned (.string ⟨l.toArray⟩)/\Below B w w':=Any.Builder_String_any Tryz.lays169 Tryz.Builder_Extra_169 B b l w h H
def Tryz.lays121_ren:Go.Shelf.Ren:=⟨λ|121=>339|214=>377|n=>n,λ|4=>4|9=>9|n=>n,λ|n=>n⟩
def Tryz.lays121:Go.Proofs.Lays.n121 aa Tryz.lays121_ren:=qt
open Go.RowKit in
def Tryz.strconv_FormatBool(b:Bool)(w:World):
  Calls aa 339 #[.bool b] w λe w'=>e= .returned (.string ⟨(Lib.formatBool b).toArray⟩)/\w'=w:=Any.strconv_FormatBool Tryz.lays121 b w
def Tryz.laysM171_ren:Go.Shelf.Ren:=⟨λ|171=>24|243=>42|246=>91|283=>137|284=>138|285=>139|286=>140|129=>223|317=>228|318=>229|319=>230|320=>231|337=>320|338=>321|n=>n,λ|3=>3|9=>9|2=>2|4=>4|171=>247|0=>0|53=>129|37=>174|5=>5|173=>250|212=>310|51=>301|20=>20|213=>311|46=>238|232=>412|233=>413|n=>n,λ|17=>3|18=>4|19=>5|n=>n⟩
def Tryz.laysM171:Go.Proofs.LaysM.n171 aa Tryz.laysM171_ren:=qt
open Go.RowKit Go.Sort Go.Lib in
def Tryz.strconv_Itoa(n:Int)(a:-9223372036854775808<=n)(H:n<=9223372036854775807)(w:World)(h:Lib.TabIs aa w "internal/strconv.uint64pow10" .u64 Lib.pow10Tab):
  Calls aa 24 #[.int .i64 n] w λe w'=>e= .returned (.string ⟨(Lib.itoa n).toArray⟩)/\∃k o,w'=grow (w.drewN k) o:=Any.strconv_Itoa Tryz.laysM171 n a H w h
def Tryz.lays138_ren:Go.Shelf.Ren:=⟨λ|138=>477|195=>478|218=>479|143=>480|219=>85|217=>130|225=>131|224=>132|267=>133|266=>224|314=>225|n=>n,λ|9=>9|3=>3|4=>4|5=>5|0=>0|46=>238|146=>302|51=>301|n=>n,λ|1=>0|n=>n⟩
def Tryz.lays138:Go.Proofs.Lays.n138 aa Tryz.lays138_ren:=qt
open Go.RowKit Go.Lib in
def Tryz.strings_Count_one(s:ByteArray)(c:UInt8)(w:World):
  Calls aa 477 #[.string s,.string ⟨#[c]⟩] w λe w'=>e= .returned (.int .i64 (Lib.countByte s.data.toList c))/\w'=w:=Any.strings_Count_one Tryz.lays138 s c w
def Tryz.lays189_ren:Go.Shelf.Ren:=⟨λ|189=>81|125=>129|257=>128|128=>222|129=>223|294=>213|295=>214|296=>215|297=>216|298=>217|299=>218|216=>219|300=>220|301=>221|328=>315|329=>316|330=>317|331=>318|332=>319|215=>247|343=>358|n=>n,λ|28=>35|3=>3|46=>238|0=>0|51=>301|53=>129|4=>4|183=>294|182=>293|131=>46|5=>5|9=>9|218=>374|222=>378|228=>409|229=>410|n=>n,λ|n=>n⟩
def Tryz.lays189:Go.Proofs.Lays.n189 aa Tryz.lays189_ren:=qt
open Go.Sort Go.RowKit in
def Tryz.slices_Sort_int(b off cap:Nat)(zs:List Int)(w:World)(a:Holds (Value.int .i64) w b off zs.toArray)(h:b<w.heap.size)(H:zs.length<4611686018427387904):
  Calls aa 81 #[.slice (some ⟨b,off,none⟩) zs.length cap] w λe w'=>
   e= .returned (.tuple #[])/\∃n o,w'=grow (putRow (Value.int .i64) (Sort.ahead w n) b off (zs.mergeSort λx y=>decide (x<=y)).toArray) o:=Any.slices_Sort_int Tryz.lays189 b off cap zs w a h H
def Tryz.lays190_ren:Go.Shelf.Ren:=⟨λ|190=>251|125=>129|258=>329|128=>222|129=>223|302=>361|303=>362|304=>363|305=>364|306=>365|307=>366|308=>367|309=>368|310=>369|333=>392|329=>316|330=>317|334=>393|335=>394|336=>395|344=>411|n=>n,λ|31=>110|9=>9|3=>3|46=>238|0=>0|51=>301|53=>129|4=>4|183=>294|182=>293|131=>46|5=>5|218=>374|222=>378|228=>409|229=>410|n=>n,λ|n=>n⟩
def Tryz.lays190:Go.Proofs.Lays.n190 aa Tryz.lays190_ren:=qt
open Go.Sort Go.RowKit in
def Tryz.slices_Sort_string(b off cap:Nat)(s:List (List UInt8))(w:World)(a:Holds encStr w b off s.toArray)(h:b<w.heap.size)(H:s.length<4611686018427387904):
  Calls aa 251 #[.slice (some ⟨b,off,none⟩) s.length cap] w λe w'=>
   e= .returned (.tuple #[])/\∃n o,w'=grow (putRow encStr (Sort.ahead w n) b off (s.mergeSort λx y=>decide (x<=y)).toArray) o:=Any.slices_Sort_string Tryz.lays190 b off cap s w a h H
def Tryz.laysNm220_ren:Go.Shelf.Ren:=⟨λ|20=>82|n=>n,λ|22=>35|3=>3|4=>4|0=>0|n=>n,λ|n=>n⟩
def Tryz.laysNm220:Go.Proofs.Lays2.n20 aa Tryz.laysNm220_ren:=qt
open Go.RowKit Go.Lib Go.Sort in
def Tryz.slices_Compact_int(b off cap:Nat)(zs:List Int)(w:World)(a:Holds (Value.int .i64) w b off zs.toArray)(H:zs.length<=9223372036854775807)(h:zs.length<=cap):
  Calls aa 82 #[.slice (some ⟨b,off,none⟩) zs.length cap] w λe w'=>e= .returned (.slice (some ⟨b,off,none⟩) (cR zs).length cap)/\∃q,w'=putRow (Value.int .i64) (Sort.ahead w q) b off (cR zs++List.replicate (zs.length-(cR zs).length) 0).toArray:=Any.slices_Compact_int Tryz.laysNm220 b off cap zs w a H h
open Go.RowKit Go.Lib Go.Sort in
def Tryz.slices_Compact_int_empty(a:Option Addr)(cap:Nat)(w:World):
  Calls aa 82 #[.slice a 0 cap] w λe w'=>e= .returned (.slice a 0 cap)/\w'=w:=Any.slices_Compact_int_empty Tryz.laysNm220 a cap w
def Tryz.lays194_ren:Go.Shelf.Ren:=⟨λ|194=>252|n=>n,λ|31=>110|9=>9|3=>3|4=>4|0=>0|n=>n,λ|n=>n⟩
def Tryz.lays194:Go.Proofs.Lays.n194 aa Tryz.lays194_ren:=qt
open Go.RowKit Go.Lib Go.Sort in
def Tryz.slices_Compact_string(b off cap:Nat)(zs:List (List UInt8))(w:World)(a:Holds encStr w b off zs.toArray)(H:zs.length<=9223372036854775807)(h:zs.length<=cap):
  Calls aa 252 #[.slice (some ⟨b,off,none⟩) zs.length cap] w λe w'=>e= .returned (.slice (some ⟨b,off,none⟩) (cR zs).length cap)/\∃q,w'=putRow encStr (Sort.ahead w q) b off (cR zs++List.replicate (zs.length-(cR zs).length) []).toArray:=Any.slices_Compact_string Tryz.lays194 b off cap zs w a H h
open Go.RowKit Go.Lib Go.Sort in
def Tryz.slices_Compact_string_empty(a:Option Addr)(cap:Nat)(w:World):
  Calls aa 252 #[.slice a 0 cap] w λe w'=>e= .returned (.slice a 0 cap)/\w'=w:=Any.slices_Compact_string_empty Tryz.lays194 a cap w
def Tryz.slices_Sort_string_none(p:Option Addr)(cap:Nat)(w:World):
  Calls aa 251 #[.slice p 0 cap] w λe w'=>e= .returned (.tuple #[])/\w'=w:=Any.slices_Sort_string_none Tryz.lays190 p cap w
open Go.RowKit Go.Sort in
def Tryz.slices_Sort_int_none(p:Option Addr)(cap:Nat)(w:World):
  Calls aa 81 #[.slice p 0 cap] w λe w'=>e= .returned (.tuple #[])/\w'=w:=Any.slices_Sort_int_none Tryz.lays189 p cap w
end Go.Proofs
namespace Go.Proofs.Z
open Go.au
def VM:aF aa 81:=λ_ _=>qq
def VS:aF aa 82:=λ_ _=>qq
def Rm:aF aa 407:=λ_ _=>qq
section
variable {α:Type}[Inhabited α][DecidableEq α]
def mem_compact(zs:List α)(x:α):x∈cR zs↔x∈zs:=by
 unfold cR B7;simp only [aq,cG,cd];constructor
 ·rintro⟨j,⟨h,_⟩,rfl⟩
  rw [cp zs.toArray j (uu h)];simp
 ·intro b
  have a:∃j,j<zs.length/\zs.toArray[j]! =x:=by
   obtain⟨j,h,rfl⟩:=bN b;exact⟨j,h,by rw [cp zs.toArray j (uu h)];simp⟩
  have H:∀n j,j<=n->j<zs.length->zs.toArray[j]! =x->∃j,(j<zs.length/\fY zs.toArray j=true)/\zs.toArray[j]! =x:=by
   intro n
   induction n with
   |zero=>intro j d h e;exact⟨j,⟨h,B6 _ j qk⟩,e⟩
   |succ n i=>
    intro j d h e
    by_cases k:zs.toArray[j]! =zs.toArray[j-1]!
    ·by_cases z:j=0
     ·exact⟨j,⟨h,B6 _ j qk⟩,e⟩
     ·exact i (j-1) qk qk (by rw [<-k,e])
    ·exact⟨j,⟨h,Lib.keeps_pos k⟩,e⟩
  obtain⟨j,h,e⟩:=a;exact H j j (a3 _) h e
def P8{le lt:α->α->Prop}(t:∀a b,le a b->a≠b->lt a b)(r:∀a b c,le a b->lt b c->lt a c)(k:∀a,le a a){zs:List α}(s:zs.Pairwise le):(cR zs).Pairwise lt:=by
 unfold cR B7;rw [eg]
 have u:((List.range zs.length).filter (fY zs.toArray)).Pairwise (λi j=>i<j/\j<zs.length/\fY zs.toArray j=true):=by
  have x:(List.range zs.length).Pairwise (· < ·):=List.pairwise_lt_range;have v:=x.filter (fY zs.toArray);refine List.Pairwise.imp_of_mem ?_ v;intro i j _ g f;simp only [cG,cd]at g;exact⟨f,g⟩
 refine u.imp ?_;rintro i j ⟨f,g,n⟩;have m:zs.toArray[j]!≠zs.toArray[j-1]!:=λe=>by rw [Lib.keeps_neg qk e]at n;cases n
 have o:∀q,q<zs.length->zs.toArray[q]! =zs[q]!:=λq H=>by
  rw [cp zs.toArray q (uu H),cp zs q H];simp
 have d:∀p q,p<=q->q<zs.length->le zs.toArray[p]! zs.toArray[q]!:=by
  intro p q l H;rw [o p qk,o q H];rcases Nat.lt_or_eq_of_le l with h|h
  ·rw [cp zs p qk,cp zs q H]
   exact(cB.1 s) p q _ _ h
  ·subst h;exact k _
 exact r _ _ _ (d i (j-1) qk qk) (t _ _ (d (j-1) j qk g) (λe=>m e.symm))
end
def P9(l:List Int):cR (l.mergeSort λx y=>decide (x<=y))=mD l:=by
 refine KJ (P8 (le:=(·<=·)) (lt:=(· < ·)) (λa b H h=>qk) (λa b c H h=>qk) (λa=>Int.le_refl a) ?_) (λx=>by rw [mem_compact,List.mem_mergeSort]);have:=List.pairwise_mergeSort (le:=λx y:Int=>decide (x<=y)) (λa b c H h=>by simp at*;omega) (λa b=>qz) l;simpa using this
abbrev VI(n:Int):Value:=.int .i64 n
def Zr:JM VI aa 81 (λl=>l.mergeSort λx y=>decide (x<=y)) where
 ent:=VM
 len zs:=gA zs
 some:=λblk off cap zs w h1 h2 h3=>Tryz.slices_Sort_int blk off cap zs w h1 h2 h3
 none:=Tryz.slices_Sort_int_none
def xL:Ve VI aa 82 cR where
 ent:=VS
 len zs:=iu zs
 some:=λblk off cap zs w h1 h2 h3=>(Tryz.slices_Compact_int blk off cap zs w h1 h2 h3).mono λe w' ⟨he,q,hw⟩=>⟨he,q,_,by have:=iu zs;simp;omega,λj h=>by
  rw [cp _ _ qz];simp [ik h],hw⟩
 none:=Tryz.slices_Compact_int_empty
def CM(l:List Int):aG aa 354 [.pd (ints l)] [.clo 383 [ints l]]:=by
 refine aG.mk Tryz.func354 λw G=>?_;refine ac ?_;refine R.fA 1 (ints l) rfl (λ_ h=>h) rfl ?_;simp only [go_sem,St.fA,SV.fA];refine R.rC ?_;rfl
def Tf(l:List Int)(hl:l.length*8<=140737488351232):fV aa 407 [.pd (.raw (.slice none 0 0)),.pd (.clo 383 [ints l])] [] [] (λres M'=>res= .own ⟨3,1,l.map I⟩/\M'=[]):=by
 refine⟨Rm,λw G vals u P N _=>?_⟩;have h0:aH w G (vals.getD 0 undef) (.raw (.slice none 0 0)):=N 0 qr;have X:Rd w G (vals.getD 1 undef) (.clo 383 [ints l]):=N 1 qr;have e0:=aH.aC h0
 have Z:vals= #[vals.getD 0 undef,vals.getD 1 undef]:=by
  apply d6
  ·simpa using P
  ·intro i A hi2
   have:vals.size=2:=uu P
   match i,A with
   |0,_=>simp [Array.getD,this]
   |1,_=>simp [Array.getD,this]
 rw [Z,e0];generalize vals.getD 1 undef=v1 at X⊢
 cases X with
 |clo _ _ bs M J fQ d z=>
  obtain⟨p,rfl⟩:=cz.1 J;obtain⟨b,off⟩:=p;have U:=d 0 0 qr kw;have T:=fQ 0 0 qr kw;have Q:=z 0 0 qr kw;simp only [eB,Nat.add_zero]at U T Q
  have hI:Ints w.heap.size w (M 0 0) l:=by
   rcases Rd.jM Q with⟨p0,E,L⟩|⟨b',O,f,E,_,_,_,x⟩
   ·exact .inl ⟨⟨p0,E⟩,uu L⟩
   ·refine .inr ⟨b',O,f,uu E,?_,λj hj=>?_⟩
    ·intro H
     obtain⟨q,_⟩:=x 0 (uu H) 0 (by simp [H,PD.width]);exact u.lt _ _ q
    ·obtain⟨_,v,q,t⟩:=x j (uu hj) 0 (by simp [hj,PD.width])
     have e6:(l.map I).getD j (.ak [])=I l[j]:=j5;rw [e6]at t;simp only [cQ,Nat.add_zero]at q;rw [q,aH.aC (Rd.tV t)];simp [hj]
  refine(callsIn_wide.1 (appendSeq_in Fence.wide 5 trivial trivial rfl qk b off (M 0 0) l hl w (u.lt _ _ T) U hI)).mono ?_;rintro e w' ⟨v,rfl,s,n⟩;refine⟨.own ⟨3,1,l.map I⟩,[],G,⟨rfl,rfl⟩,λ_ _ h=>h,λ_ _ h=>.inl h,λb o h=>cj (u.lt b o h) n.size,⟨n.os,n.tape,n.output,n.size,λk a _=>n.block k a,λh=>xa⟩,⟨v,rfl,?_⟩,λr m h=>xc,λr m h=>xc⟩;rcases s with⟨hxl,⟨rfl,hn⟩|⟨g,f,C,rfl,K,D,h2,h3,x,q⟩⟩
  ·exact .inl ⟨rfl,by have:l=[]:=d8.1 hn
                      simp [this]⟩
  ·refine .inr ⟨g,f,C,qr,K,λo ho=>by have:=u.lt _ _ ho;omega,D,x,uu h2,h3,λk a=>?_,λk j a hj=>?_⟩
   ·simp only [al]at a
    simp [a,PD.width]
   ·simp only [al]at a
    have hj:j=0:=by simp at hj;exact hj
    subst hj;have E:(l.map I).getD k (.ak [])=I l[k]:=by simp [a]
    have hkc:k<C.size:=qk
    have L:C.getD k undef= .int .i64 l[k]:=by
     have t:(C.toList.take (l.length*1))[k]? =some (.int .i64 l[k]):=by rw [q];simp [a]
     rw [eD,af qk]at t;have h7:C[k]? =some (.int .i64 l[k]):=uu t;simp [aL,h7]
    simp only [cQ,Nat.add_zero];rw [E,L];exact .raw _ rfl
def Xt(l:List Int)(H:l.length*8<=140737488351232):fV aa 382 [.pd (.clo 383 [ints l])] [] [] (λres M=>res= .own ⟨3,1,l.map I⟩/\M=[]):=by
 refine fV.mk Tryz.func382 λw G=>?_;refine ac ?_;refine R.ig xp 7 xp rfl rfl (ah qn) ze (Tf l H) (λr m h=>xc) (λr h=>xy) ?_;rintro res M ⟨rfl,rfl⟩ _;simp only [Behind];refine ac ?_;exact R.yJ rfl rfl rfl ⟨rfl,rfl⟩
abbrev pf(l:List Int):List Int:=l.mergeSort λx y=>decide (x<=y)
def Zt(l:List Int)(H:l.length*8<=140737488351232):fV aa 353 [.pd (.clo 383 [ints l])] [] [] (λres M=>res= .own ⟨3,1,(pf l).map I⟩/\M=[]):=by
 refine fV.mk Tryz.func353 λw G=>?_;refine ac ?_;refine R.ig xp 7 xp rfl rfl (ah qn) zd (Xt l H) (λr m h=>xc) (λr h=>xy) ?_;rintro res M ⟨rfl,rfl⟩ _;simp only [Behind];refine ac ?_;refine R.TY VI Zr (λ_=>rfl) l rfl rfl qn rfl rfl qk ?_;refine ac ?_;exact R.yJ rfl rfl rfl ⟨rfl,rfl⟩
def s6(l:List Int)(a:l.length*8<=140737488351232):bg aa 294 [.pd (ints l)] [ints (mD l)]:=by
 refine bg.mk Tryz.func294 λw G=>?_;refine ac ?_;refine R.kC (CM l) rfl rfl zd ?_;refine ac ?_;refine R.ig xp 7 xp rfl rfl (ah qn) zd (Zt l a) (λr m h=>xc) (λr h=>xy) ?_;rintro s M ⟨rfl,rfl⟩ _;simp only [Behind];refine ac ?_;have H:(pf l).length=l.length:=gA l;refine R.Vf VI xL (λ_=>rfl) (pf l) rfl rfl qn rfl rfl rfl qk ?_;refine ac ?_;refine R.dI 7 rfl rfl ?_;simp only [go_sem];refine R.rW ?_;rw [<-P9];rfl
end Go.Proofs.Z
