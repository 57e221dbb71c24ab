import Derived.Test.YtjaapemopbbfaaaGreatDoorPMeshesM08
import Derived.Shelf.Strings.Builder1
import Derived.Shelf.Strings.Builder2
import Derived.Shelf.Strings.BuilderF
import Derived.Shelf.Strings.BuilderK
import Derived.Shelf.Strconv.Atoi
import Derived.Shelf.Strconv.Itoa0
import Derived.Shelf.Strconv.Itoa1
import Derived.Shelf.LaysM
import Derived.Shelf.Strconv.Itoa2
import Derived.Shelf.Strconv.Itoa3
import Derived.Shelf.Strings.Search1
import Derived.Shelf.Strings.Search2
import Derived.Shelf.Strings.Search3
import Derived.Shelf.Strings.Cut
import Derived.Shelf.Strings.Count
import Derived.Shelf.Strings.Shaped
import Derived.Shelf.Strings.Prefix
import Derived.Shelf.Strings.Split
import Derived.Shelf.Bits.Mul64
import Derived.Shelf.Strings.Repeat
import Derived.Shelf.Unicode.DecodeSlow
import Derived.Test.YtjaapemopbbfaaaGreatDoorProg
import Derived.RangeFuncOwn
import Derived.Lib.Builder
import Derived.Lib.AppendStr
import Derived.Lib.UnsafeStr
import Derived.Laws.Externs
namespace Go.Proofs.YtjaapemopbbfaaaGreatDoor
open Go.RowKit
set_option maxRecDepth 100000
set_option maxHeartbeats 8000000
theorem V2:∀(l:List Nat) (x:Nat),xh (l++[x])=Xi (dD x) 9++xh l
 | [],x=>by simp[xh]
 | y::l,x=>by rw[List.cons_append,xh,V2 l x,xh,List.append_assoc]
theorem kp {l:List Nat}{k:Nat}(h:k<l.length):xh (l.take (k+1))=Xi (dD (dx l k)) 9++xh (l.take k):=by
 rw[List.take_add_one,List.getElem?_eq_getElem h]
 simp only[Option.toList]
 rw[V2]
 congr 3
 simp[dx,List.getD_eq_getElem?_getD,List.getElem?_eq_getElem h]
theorem qbf (k:Nat):Bs ^ k=10 ^ (9*k):=by rw[show Bs=10 ^ 9 from rfl,<-Nat.pow_mul]
theorem QE {N:Nat}(h:(dig N).length<=60):(dD N).length<=540:=by
 have hk:∀k,k=60->(dD N).length<=9*k:=λk hk=>ZT (by omega) (by rw[<-qbf];exact qr.1 (by rw[hk];exact h))
 exact hk 60 rfl
theorem V0 (N k:Nat):dx (dig N) k<1000000000:=qI (qs N) k
theorem qck {N:Nat}(h:(dig N).length<=60):okN (qu (dig N))=true:=QA ⟨N,rfl,h⟩
section
open Go.Shelf
def Tryz.lays169_ren:Go.Shelf.Ren:=⟨λ|169=>122|n=>n,λ|70=>143|9=>9|0=>0|72=>145|37=>34|127=>178|3=>3|5=>5|n=>n,λ|n=>n⟩
theorem Tryz.lays169:Go.Proofs.Lays.n169 Tryz.prog Tryz.lays169_ren:={
 mixed:=by kernel_rfl
 f169:=Tryz.func122.trans (congrArg some (by kernel_rfl))
 t0:=Tryz.underlying0
 a0:=Tryz.isAgg0
 z0:=Tryz.sizeOf0
 v0:=Tryz.zeroValue0
 t3:=Tryz.underlying3
 a3:=Tryz.isAgg3
 z3:=Tryz.sizeOf3
 v3:=Tryz.zeroValue3
 t9:=Tryz.underlying9
 a9:=Tryz.isAgg9
 z9:=Tryz.sizeOf9
 v9:=Tryz.zeroValue9
 t37:=Tryz.underlying34
 a37:=Tryz.isAgg34
 z37:=Tryz.sizeOf34
 v37:=Tryz.zeroValue34
 t70:=Tryz.underlying143
 a70:=Tryz.isAgg143
 z70:=Tryz.sizeOf143
 v70:=Tryz.zeroValue143
 t72:=Tryz.underlying145
 a72:=Tryz.isAgg145
 z72:=Tryz.sizeOf145
 v72:=Tryz.zeroValue145
 t127:=Tryz.underlying178
 a127:=Tryz.isAgg178
 z127:=Tryz.sizeOf178
 v127:=Tryz.zeroValue178 }
theorem Tryz.Builder_Extra_169:Builder.Extra Tryz.prog Tryz.lays169_ren:={
 sizeBuilder:=by kernel_rfl
 liesBuilder:=by kernel_rfl
 t5:=Tryz.underlying5
 a5:=Tryz.isAgg5
 z5:=Tryz.sizeOf5
 v5:=Tryz.zeroValue5
 infoByte:=by kernel_rfl
 cellsByte:=by kernel_rfl
 sizeByte:=by kernel_rfl
 neB5:=by decide }
open Go.RowKit in
theorem Tryz.Builder_String_any_k (B b:Nat) (l:List UInt8) (w:World) (h:Lib.IsBuilderF 145 5 B b (Lib.byteCells l) w) (hBw:B<=w.heap.size) :
  Calls Tryz.prog 122 #[.pointer (some ⟨b,0,none⟩)] w λe w'=>e=.returned (.string ⟨l.toArray⟩)/\(Lib.IsBuilderF 145 5 B b (Lib.byteCells l) w'/\Below B w w'/\Lib.OthersKept 5 (some b) w w'):=Any.Builder_String_any_k Tryz.lays169 Tryz.Builder_Extra_169 B b l w h hBw
def Tryz.lays172_ren:Go.Shelf.Ren:=⟨λ|172=>167|244=>219|245=>220|247=>254|279=>255|280=>256|281=>257|282=>258|287=>276|316=>277|171=>132|205=>278|321=>288|322=>289|243=>176|246=>227|283=>261|284=>262|285=>263|286=>264|129=>280|317=>279|318=>281|319=>282|320=>283|337=>290|338=>291|n=>n,λ|9=>9|3=>3|75=>147|76=>148|4=>4|5=>5|167=>227|37=>34|0=>0|85=>228|2=>2|168=>230|53=>167|175=>247|46=>160|210=>251|127=>178|145=>261|143=>259|21=>21|171=>235|173=>238|212=>254|51=>218|20=>20|213=>255|232=>263|233=>264|80=>150|n=>n,λ|15=>3|16=>4|17=>5|18=>6|19=>7|n=>n⟩
theorem Tryz.lays172:Go.Proofs.Lays.n172 Tryz.prog Tryz.lays172_ren:={
 mixed:=by kernel_rfl
 f129:=Tryz.func280.trans (congrArg some (by kernel_rfl))
 f171:=Tryz.func132.trans (congrArg some (by kernel_rfl))
 f172:=Tryz.func167.trans (congrArg some (by kernel_rfl))
 f205:=Tryz.func278.trans (congrArg some (by kernel_rfl))
 f243:=Tryz.func176.trans (congrArg some (by kernel_rfl))
 f244:=Tryz.func219.trans (congrArg some (by kernel_rfl))
 f245:=Tryz.func220.trans (congrArg some (by kernel_rfl))
 f246:=Tryz.func227.trans (congrArg some (by kernel_rfl))
 f247:=Tryz.func254.trans (congrArg some (by kernel_rfl))
 f279:=Tryz.func255.trans (congrArg some (by kernel_rfl))
 f280:=Tryz.func256.trans (congrArg some (by kernel_rfl))
 f281:=Tryz.func257.trans (congrArg some (by kernel_rfl))
 f282:=Tryz.func258.trans (congrArg some (by kernel_rfl))
 f283:=Tryz.func261.trans (congrArg some (by kernel_rfl))
 f284:=Tryz.func262.trans (congrArg some (by kernel_rfl))
 f285:=Tryz.func263.trans (congrArg some (by kernel_rfl))
 f286:=Tryz.func264.trans (congrArg some (by kernel_rfl))
 f287:=Tryz.func276.trans (congrArg some (by kernel_rfl))
 f316:=Tryz.func277.trans (congrArg some (by kernel_rfl))
 f317:=Tryz.func279.trans (congrArg some (by kernel_rfl))
 f318:=Tryz.func281.trans (congrArg some (by kernel_rfl))
 f319:=Tryz.func282.trans (congrArg some (by kernel_rfl))
 f320:=Tryz.func283.trans (congrArg some (by kernel_rfl))
 f321:=Tryz.func288.trans (congrArg some (by kernel_rfl))
 f322:=Tryz.func289.trans (congrArg some (by kernel_rfl))
 f337:=Tryz.func290.trans (congrArg some (by kernel_rfl))
 f338:=Tryz.func291.trans (congrArg some (by kernel_rfl))
 t0:=Tryz.underlying0
 a0:=Tryz.isAgg0
 z0:=Tryz.sizeOf0
 v0:=Tryz.zeroValue0
 t2:=Tryz.underlying2
 a2:=Tryz.isAgg2
 z2:=Tryz.sizeOf2
 v2:=Tryz.zeroValue2
 t3:=Tryz.underlying3
 a3:=Tryz.isAgg3
 z3:=Tryz.sizeOf3
 v3:=Tryz.zeroValue3
 t4:=Tryz.underlying4
 a4:=Tryz.isAgg4
 z4:=Tryz.sizeOf4
 v4:=Tryz.zeroValue4
 t5:=Tryz.underlying5
 a5:=Tryz.isAgg5
 z5:=Tryz.sizeOf5
 v5:=Tryz.zeroValue5
 t9:=Tryz.underlying9
 a9:=Tryz.isAgg9
 z9:=Tryz.sizeOf9
 v9:=Tryz.zeroValue9
 t20:=Tryz.underlying20
 a20:=Tryz.isAgg20
 z20:=Tryz.sizeOf20
 v20:=Tryz.zeroValue20
 t21:=Tryz.underlying21
 a21:=Tryz.isAgg21
 z21:=Tryz.sizeOf21
 v21:=Tryz.zeroValue21
 t37:=Tryz.underlying34
 a37:=Tryz.isAgg34
 z37:=Tryz.sizeOf34
 v37:=Tryz.zeroValue34
 t46:=Tryz.underlying160
 a46:=Tryz.isAgg160
 z46:=Tryz.sizeOf160
 v46:=Tryz.zeroValue160
 t51:=Tryz.underlying218
 a51:=Tryz.isAgg218
 z51:=Tryz.sizeOf218
 v51:=Tryz.zeroValue218
 t53:=Tryz.underlying167
 a53:=Tryz.isAgg167
 z53:=Tryz.sizeOf167
 v53:=Tryz.zeroValue167
 t75:=Tryz.underlying147
 a75:=Tryz.isAgg147
 z75:=Tryz.sizeOf147
 v75:=Tryz.zeroValue147
 t76:=Tryz.underlying148
 a76:=Tryz.isAgg148
 z76:=Tryz.sizeOf148
 v76:=Tryz.zeroValue148
 t85:=Tryz.underlying228
 a85:=Tryz.isAgg228
 z85:=Tryz.sizeOf228
 v85:=Tryz.zeroValue228
 t127:=Tryz.underlying178
 a127:=Tryz.isAgg178
 z127:=Tryz.sizeOf178
 v127:=Tryz.zeroValue178
 t143:=Tryz.underlying259
 a143:=Tryz.isAgg259
 z143:=Tryz.sizeOf259
 v143:=Tryz.zeroValue259
 t145:=Tryz.underlying261
 a145:=Tryz.isAgg261
 z145:=Tryz.sizeOf261
 v145:=Tryz.zeroValue261
 t167:=Tryz.underlying227
 a167:=Tryz.isAgg227
 z167:=Tryz.sizeOf227
 v167:=Tryz.zeroValue227
 t168:=Tryz.underlying230
 a168:=Tryz.isAgg230
 z168:=Tryz.sizeOf230
 v168:=Tryz.zeroValue230
 t171:=Tryz.underlying235
 a171:=Tryz.isAgg235
 z171:=Tryz.sizeOf235
 v171:=Tryz.zeroValue235
 t173:=Tryz.underlying238
 a173:=Tryz.isAgg238
 z173:=Tryz.sizeOf238
 v173:=Tryz.zeroValue238
 t175:=Tryz.underlying247
 a175:=Tryz.isAgg247
 z175:=Tryz.sizeOf247
 v175:=Tryz.zeroValue247
 t210:=Tryz.underlying251
 a210:=Tryz.isAgg251
 z210:=Tryz.sizeOf251
 v210:=Tryz.zeroValue251
 t212:=Tryz.underlying254
 a212:=Tryz.isAgg254
 z212:=Tryz.sizeOf254
 v212:=Tryz.zeroValue254
 t213:=Tryz.underlying255
 a213:=Tryz.isAgg255
 z213:=Tryz.sizeOf255
 t232:=Tryz.underlying263
 a232:=Tryz.isAgg263
 z232:=Tryz.sizeOf263
 v232:=Tryz.zeroValue263
 t233:=Tryz.underlying264
 a233:=Tryz.isAgg264
 z233:=Tryz.sizeOf264
 v233:=Tryz.zeroValue264
 g15:=by kernel_rfl
 g16:=by kernel_rfl
 g17:=by kernel_rfl
 g18:=by kernel_rfl
 g19:=by kernel_rfl }
open Go.RowKit in
theorem Tryz.strconv_Atoi (s:ByteArray) (n:Int) (hl:s.size<=18) (h:Lib.atoi s.data.toList=some n) (w:World) :
  Calls Tryz.prog 167 #[.string s] w λe w'=>e=.returned (.tuple #[.int .i64 n,.nilIface])/\∃t,w'=Lib.bytesWorld w 5 t:=Any.strconv_Atoi Tryz.lays172 s n hl h w
def Tryz.laysM171_ren:Go.Shelf.Ren:=⟨λ|171=>132|243=>176|246=>227|283=>261|284=>262|285=>263|286=>264|129=>280|317=>279|318=>281|319=>282|320=>283|337=>290|338=>291|n=>n,λ|3=>3|9=>9|2=>2|4=>4|171=>235|0=>0|53=>167|37=>34|5=>5|173=>238|212=>254|51=>218|20=>20|213=>255|46=>160|232=>263|233=>264|n=>n,λ|17=>5|18=>6|19=>7|n=>n⟩
theorem Tryz.laysM171:Go.Proofs.LaysM.n171 Tryz.prog Tryz.laysM171_ren:={
 mixed:=by kernel_rfl
 f129:=Tryz.func280.trans (congrArg some (by kernel_rfl))
 f171:=Tryz.func132.trans (congrArg some (by kernel_rfl))
 f243:=Tryz.func176.trans (congrArg some (by kernel_rfl))
 f246:=Tryz.func227.trans (congrArg some (by kernel_rfl))
 f283:=Tryz.func261.trans (congrArg some (by kernel_rfl))
 f284:=Tryz.func262.trans (congrArg some (by kernel_rfl))
 f285:=Tryz.func263.trans (congrArg some (by kernel_rfl))
 f286:=Tryz.func264.trans (congrArg some (by kernel_rfl))
 f317:=Tryz.func279.trans (congrArg some (by kernel_rfl))
 f318:=Tryz.func281.trans (congrArg some (by kernel_rfl))
 f319:=Tryz.func282.trans (congrArg some (by kernel_rfl))
 f320:=Tryz.func283.trans (congrArg some (by kernel_rfl))
 f337:=Tryz.func290.trans (congrArg some (by kernel_rfl))
 f338:=Tryz.func291.trans (congrArg some (by kernel_rfl))
 t0:=Tryz.underlying0
 a0:=Tryz.isAgg0
 z0:=Tryz.sizeOf0
 v0:=Tryz.zeroValue0
 t2:=Tryz.underlying2
 a2:=Tryz.isAgg2
 z2:=Tryz.sizeOf2
 v2:=Tryz.zeroValue2
 t3:=Tryz.underlying3
 a3:=Tryz.isAgg3
 z3:=Tryz.sizeOf3
 v3:=Tryz.zeroValue3
 t4:=Tryz.underlying4
 a4:=Tryz.isAgg4
 z4:=Tryz.sizeOf4
 v4:=Tryz.zeroValue4
 t5:=Tryz.underlying5
 a5:=Tryz.isAgg5
 z5:=Tryz.sizeOf5
 v5:=Tryz.zeroValue5
 t9:=Tryz.underlying9
 a9:=Tryz.isAgg9
 z9:=Tryz.sizeOf9
 v9:=Tryz.zeroValue9
 t20:=Tryz.underlying20
 a20:=Tryz.isAgg20
 z20:=Tryz.sizeOf20
 v20:=Tryz.zeroValue20
 t37:=Tryz.underlying34
 a37:=Tryz.isAgg34
 z37:=Tryz.sizeOf34
 v37:=Tryz.zeroValue34
 t46:=Tryz.underlying160
 a46:=Tryz.isAgg160
 z46:=Tryz.sizeOf160
 v46:=Tryz.zeroValue160
 t51:=Tryz.underlying218
 a51:=Tryz.isAgg218
 z51:=Tryz.sizeOf218
 v51:=Tryz.zeroValue218
 t53:=Tryz.underlying167
 a53:=Tryz.isAgg167
 z53:=Tryz.sizeOf167
 v53:=Tryz.zeroValue167
 t171:=Tryz.underlying235
 a171:=Tryz.isAgg235
 z171:=Tryz.sizeOf235
 v171:=Tryz.zeroValue235
 t173:=Tryz.underlying238
 a173:=Tryz.isAgg238
 z173:=Tryz.sizeOf238
 v173:=Tryz.zeroValue238
 t212:=Tryz.underlying254
 a212:=Tryz.isAgg254
 z212:=Tryz.sizeOf254
 v212:=Tryz.zeroValue254
 t213:=Tryz.underlying255
 a213:=Tryz.isAgg255
 z213:=Tryz.sizeOf255
 t232:=Tryz.underlying263
 a232:=Tryz.isAgg263
 z232:=Tryz.sizeOf263
 v232:=Tryz.zeroValue263
 t233:=Tryz.underlying264
 a233:=Tryz.isAgg264
 z233:=Tryz.sizeOf264
 v233:=Tryz.zeroValue264
 g17:=by kernel_rfl
 g18:=by kernel_rfl
 g19:=by kernel_rfl
 i0:=by kernel_rfl
 i2:=by kernel_rfl
 i3:=by kernel_rfl
 i4:=by kernel_rfl
 i5:=by kernel_rfl
 i9:=by kernel_rfl
 i20:=by kernel_rfl
 i37:=by kernel_rfl
 i46:=by kernel_rfl
 i51:=by kernel_rfl
 i53:=by kernel_rfl
 i171:=by kernel_rfl
 i173:=by kernel_rfl
 i212:=by kernel_rfl
 i232:=by kernel_rfl
 i233:=by kernel_rfl
 m17:=by kernel_rfl
 m18:=by kernel_rfl
 m19:=by kernel_rfl }
open Go.RowKit Go.Sort Go.Lib in
theorem Tryz.strconv_Itoa (n : Int) (h0 : -9223372036854775808 <= n) (h1 : n <= 9223372036854775807) (w : World) (htab : Lib.TabIs Tryz.prog w "internal/strconv.uint64pow10" .u64 Lib.pow10Tab) :
  Calls Tryz.prog 132 #[.int .i64 n] w λe w'=>e=.returned (.string ⟨(Lib.itoa n).toArray⟩)/\∃k os,w'=grow (w.drewN k) os:=Any.strconv_Itoa Tryz.laysM171 n h0 h1 w htab
def Tryz.lays145_ren:Go.Shelf.Ren:=⟨λ|145=>37|220=>81|219=>139|217=>182|225=>183|224=>184|267=>185|266=>231|314=>232|n=>n,λ|9=>9|4=>4|59=>64|3=>3|5=>5|46=>160|146=>219|51=>218|n=>n,λ|1=>0|n=>n⟩
theorem Tryz.lays145:Go.Proofs.Lays.n145 Tryz.prog Tryz.lays145_ren:={
 mixed:=by kernel_rfl
 f145:=Tryz.func37.trans (congrArg some (by kernel_rfl))
 f217:=Tryz.func182.trans (congrArg some (by kernel_rfl))
 f219:=Tryz.func139.trans (congrArg some (by kernel_rfl))
 f220:=Tryz.func81.trans (congrArg some (by kernel_rfl))
 f224:=Tryz.func184.trans (congrArg some (by kernel_rfl))
 f225:=Tryz.func183.trans (congrArg some (by kernel_rfl))
 f266:=Tryz.func231.trans (congrArg some (by kernel_rfl))
 f267:=Tryz.func185.trans (congrArg some (by kernel_rfl))
 f314:=Tryz.func232.trans (congrArg some (by kernel_rfl))
 t3:=Tryz.underlying3
 a3:=Tryz.isAgg3
 z3:=Tryz.sizeOf3
 v3:=Tryz.zeroValue3
 t4:=Tryz.underlying4
 a4:=Tryz.isAgg4
 z4:=Tryz.sizeOf4
 v4:=Tryz.zeroValue4
 t5:=Tryz.underlying5
 a5:=Tryz.isAgg5
 z5:=Tryz.sizeOf5
 v5:=Tryz.zeroValue5
 t9:=Tryz.underlying9
 a9:=Tryz.isAgg9
 z9:=Tryz.sizeOf9
 v9:=Tryz.zeroValue9
 t46:=Tryz.underlying160
 a46:=Tryz.isAgg160
 z46:=Tryz.sizeOf160
 v46:=Tryz.zeroValue160
 t51:=Tryz.underlying218
 a51:=Tryz.isAgg218
 z51:=Tryz.sizeOf218
 v51:=Tryz.zeroValue218
 t59:=Tryz.underlying64
 a59:=Tryz.isAgg64
 z59:=Tryz.sizeOf64
 v59:=Tryz.zeroValue64
 t146:=Tryz.underlying219
 a146:=Tryz.isAgg219
 z146:=Tryz.sizeOf219
 v146:=Tryz.zeroValue219
 g1:=by kernel_rfl }
open Go.RowKit Go.Lib in
theorem Tryz.strings_Cut (s sep:ByteArray) (m:Int) (w:World) (hs:s.size<4294967281) (hm:w.cell? ⟨0,0,none⟩=some (.int .i64 m)) :
  Calls Tryz.prog 37 #[.string s,.string sep] w λe w'=>e=.returned (.tuple #[.string ⟨(Lib.cut s.data.toList sep.data.toList).1.toArray⟩,.string ⟨(Lib.cut s.data.toList sep.data.toList).2.1.toArray⟩,.bool (Lib.cut s.data.toList sep.data.toList).2.2])/\∃n,w'=w.drewN n:=Any.strings_Cut Tryz.lays145 s sep m w hs hm
def Tryz.lays146_ren:Go.Shelf.Ren:=⟨λ|146=>59|221=>119|268=>164|138=>165|143=>166|195=>216|197=>217|218=>218|219=>139|260=>253|217=>182|225=>183|224=>184|267=>185|266=>231|314=>232|n=>n,λ|9=>9|31=>60|3=>3|4=>4|0=>0|105=>210|21=>21|5=>5|46=>160|119=>243|139=>246|138=>245|146=>219|51=>218|n=>n,λ|1=>0|3=>1|4=>2|n=>n⟩
theorem Tryz.lays146:Go.Proofs.Lays.n146 Tryz.prog Tryz.lays146_ren:={
 mixed:=by kernel_rfl
 f138:=Tryz.func165.trans (congrArg some (by kernel_rfl))
 f143:=Tryz.func166.trans (congrArg some (by kernel_rfl))
 f146:=Tryz.func59.trans (congrArg some (by kernel_rfl))
 f195:=Tryz.func216.trans (congrArg some (by kernel_rfl))
 f197:=Tryz.func217.trans (congrArg some (by kernel_rfl))
 f217:=Tryz.func182.trans (congrArg some (by kernel_rfl))
 f218:=Tryz.func218.trans (congrArg some (by kernel_rfl))
 f219:=Tryz.func139.trans (congrArg some (by kernel_rfl))
 f221:=Tryz.func119.trans (congrArg some (by kernel_rfl))
 f224:=Tryz.func184.trans (congrArg some (by kernel_rfl))
 f225:=Tryz.func183.trans (congrArg some (by kernel_rfl))
 f260:=Tryz.func253.trans (congrArg some (by kernel_rfl))
 f266:=Tryz.func231.trans (congrArg some (by kernel_rfl))
 f267:=Tryz.func185.trans (congrArg some (by kernel_rfl))
 f268:=Tryz.func164.trans (congrArg some (by kernel_rfl))
 f314:=Tryz.func232.trans (congrArg some (by kernel_rfl))
 t0:=Tryz.underlying0
 a0:=Tryz.isAgg0
 z0:=Tryz.sizeOf0
 v0:=Tryz.zeroValue0
 t3:=Tryz.underlying3
 a3:=Tryz.isAgg3
 z3:=Tryz.sizeOf3
 v3:=Tryz.zeroValue3
 t4:=Tryz.underlying4
 a4:=Tryz.isAgg4
 z4:=Tryz.sizeOf4
 v4:=Tryz.zeroValue4
 t5:=Tryz.underlying5
 a5:=Tryz.isAgg5
 z5:=Tryz.sizeOf5
 v5:=Tryz.zeroValue5
 t9:=Tryz.underlying9
 a9:=Tryz.isAgg9
 z9:=Tryz.sizeOf9
 v9:=Tryz.zeroValue9
 t21:=Tryz.underlying21
 a21:=Tryz.isAgg21
 z21:=Tryz.sizeOf21
 v21:=Tryz.zeroValue21
 t31:=Tryz.underlying60
 a31:=Tryz.isAgg60
 z31:=Tryz.sizeOf60
 v31:=Tryz.zeroValue60
 t46:=Tryz.underlying160
 a46:=Tryz.isAgg160
 z46:=Tryz.sizeOf160
 v46:=Tryz.zeroValue160
 t51:=Tryz.underlying218
 a51:=Tryz.isAgg218
 z51:=Tryz.sizeOf218
 v51:=Tryz.zeroValue218
 t105:=Tryz.underlying210
 a105:=Tryz.isAgg210
 z105:=Tryz.sizeOf210
 v105:=Tryz.zeroValue210
 t119:=Tryz.underlying243
 a119:=Tryz.isAgg243
 z119:=Tryz.sizeOf243
 t138:=Tryz.underlying245
 a138:=Tryz.isAgg245
 z138:=Tryz.sizeOf245
 v138:=Tryz.zeroValue245
 t139:=Tryz.underlying246
 a139:=Tryz.isAgg246
 z139:=Tryz.sizeOf246
 v139:=Tryz.zeroValue246
 t146:=Tryz.underlying219
 a146:=Tryz.isAgg219
 z146:=Tryz.sizeOf219
 v146:=Tryz.zeroValue219
 g1:=by kernel_rfl
 g3:=by kernel_rfl
 g4:=by kernel_rfl }
open Go.RowKit Go.Lib in
theorem Tryz.strings_Split (s sep:ByteArray) (m:Int) (w:World) (hs:s.size<4294967281) (hm:w.cell? ⟨0,0,none⟩=some (.int .i64 m)) (h1:1<=sep.size) :
  Calls Tryz.prog 59 #[.string s,.string sep] w λe w'=>
   e=.returned (.slice (some ⟨w.heap.size,0,none⟩) (Lib.countB s sep+1) (Lib.countB s sep+1))/\w'=w.alloc (.cells ((Lib.splitB sep 0 (Lib.countB s sep) s).map Value.string).toArray 9):=Any.strings_Split Tryz.lays146 (by kernel_rfl) s sep m w hs hm h1
def Tryz.lays105_ren:Go.Shelf.Ren:=⟨λ|105=>194|212=>237|99=>238|165=>239|166=>121|170=>240|169=>122|263=>267|264=>268|206=>269|240=>168|241=>270|276=>221|277=>284|n=>n,λ|9=>9|3=>3|4=>4|20=>20|0=>0|46=>160|109=>221|5=>5|72=>145|76=>148|51=>218|146=>219|53=>167|148=>241|70=>143|37=>34|75=>147|127=>178|164=>213|80=>150|n=>n,λ|n=>n⟩
theorem Tryz.lays105:Go.Proofs.Lays.n105 Tryz.prog Tryz.lays105_ren:={
 mixed:=by kernel_rfl
 f99:=Tryz.func238.trans (congrArg some (by kernel_rfl))
 f105:=Tryz.func194.trans (congrArg some (by kernel_rfl))
 f165:=Tryz.func239.trans (congrArg some (by kernel_rfl))
 f166:=Tryz.func121.trans (congrArg some (by kernel_rfl))
 f169:=Tryz.func122.trans (congrArg some (by kernel_rfl))
 f170:=Tryz.func240.trans (congrArg some (by kernel_rfl))
 f206:=Tryz.func269.trans (congrArg some (by kernel_rfl))
 f212:=Tryz.func237.trans (congrArg some (by kernel_rfl))
 f240:=Tryz.func168.trans (congrArg some (by kernel_rfl))
 f241:=Tryz.func270.trans (congrArg some (by kernel_rfl))
 f263:=Tryz.func267.trans (congrArg some (by kernel_rfl))
 f264:=Tryz.func268.trans (congrArg some (by kernel_rfl))
 f276:=Tryz.func221.trans (congrArg some (by kernel_rfl))
 f277:=Tryz.func284.trans (congrArg some (by kernel_rfl))
 t0:=Tryz.underlying0
 a0:=Tryz.isAgg0
 z0:=Tryz.sizeOf0
 v0:=Tryz.zeroValue0
 t3:=Tryz.underlying3
 a3:=Tryz.isAgg3
 z3:=Tryz.sizeOf3
 v3:=Tryz.zeroValue3
 t4:=Tryz.underlying4
 a4:=Tryz.isAgg4
 z4:=Tryz.sizeOf4
 v4:=Tryz.zeroValue4
 t5:=Tryz.underlying5
 a5:=Tryz.isAgg5
 z5:=Tryz.sizeOf5
 v5:=Tryz.zeroValue5
 t9:=Tryz.underlying9
 a9:=Tryz.isAgg9
 z9:=Tryz.sizeOf9
 v9:=Tryz.zeroValue9
 t20:=Tryz.underlying20
 a20:=Tryz.isAgg20
 z20:=Tryz.sizeOf20
 v20:=Tryz.zeroValue20
 t37:=Tryz.underlying34
 a37:=Tryz.isAgg34
 z37:=Tryz.sizeOf34
 v37:=Tryz.zeroValue34
 t46:=Tryz.underlying160
 a46:=Tryz.isAgg160
 z46:=Tryz.sizeOf160
 v46:=Tryz.zeroValue160
 t51:=Tryz.underlying218
 a51:=Tryz.isAgg218
 z51:=Tryz.sizeOf218
 v51:=Tryz.zeroValue218
 t53:=Tryz.underlying167
 a53:=Tryz.isAgg167
 z53:=Tryz.sizeOf167
 v53:=Tryz.zeroValue167
 t70:=Tryz.underlying143
 a70:=Tryz.isAgg143
 z70:=Tryz.sizeOf143
 v70:=Tryz.zeroValue143
 t72:=Tryz.underlying145
 a72:=Tryz.isAgg145
 z72:=Tryz.sizeOf145
 v72:=Tryz.zeroValue145
 t75:=Tryz.underlying147
 a75:=Tryz.isAgg147
 z75:=Tryz.sizeOf147
 v75:=Tryz.zeroValue147
 t76:=Tryz.underlying148
 a76:=Tryz.isAgg148
 z76:=Tryz.sizeOf148
 v76:=Tryz.zeroValue148
 t109:=Tryz.underlying221
 a109:=Tryz.isAgg221
 z109:=Tryz.sizeOf221
 v109:=Tryz.zeroValue221
 t127:=Tryz.underlying178
 a127:=Tryz.isAgg178
 z127:=Tryz.sizeOf178
 v127:=Tryz.zeroValue178
 t146:=Tryz.underlying219
 a146:=Tryz.isAgg219
 z146:=Tryz.sizeOf219
 v146:=Tryz.zeroValue219
 t148:=Tryz.underlying241
 a148:=Tryz.isAgg241
 z148:=Tryz.sizeOf241
 v148:=Tryz.zeroValue241
 t164:=Tryz.underlying213
 a164:=Tryz.isAgg213
 z164:=Tryz.sizeOf213
 v164:=Tryz.zeroValue213 }
theorem Tryz.Builder_Extra_105:Builder.Extra Tryz.prog Tryz.lays105_ren:={
 sizeBuilder:=by kernel_rfl
 liesBuilder:=by kernel_rfl
 t5:=Tryz.underlying5
 a5:=Tryz.isAgg5
 z5:=Tryz.sizeOf5
 v5:=Tryz.zeroValue5
 infoByte:=by kernel_rfl
 cellsByte:=by kernel_rfl
 sizeByte:=by kernel_rfl
 neB5:=by decide }
open Go.RowKit Go.Lib in
theorem Tryz.strings_Repeat (s:ByteArray) (c:Nat) (w:World) (hc:c<=9223372036854775807) (hlen:s.size*c<=140737488355328) :
  Calls Tryz.prog 194 #[.string s,.int .i64 c] w λe w'=>e=.returned (.string ⟨(Lib.repeatL s.data.toList c).toArray⟩)/\Below w.heap.size w w':=Any.strings_Repeat Tryz.lays105 Tryz.Builder_Extra_105 s c w hc hlen
end
def Env (w : World) : Prop := Lib.TabIs Tryz.prog w "internal/strconv.uint64pow10" .u64 Lib.pow10Tab /\ ∃ m : Int, w.cell? ⟨0, 0, none⟩ = some (.int .i64 m)
theorem qdf {w W:World}{k:IntKind}{zs:List Int}{n:String}(h:Lib.TabIs Tryz.prog w n k zs) (hb:Bl w W):Lib.TabIs Tryz.prog W n k zs:=by
 unfold Lib.TabIs World.var? at *
 cases hg:Tryz.prog.globalNamed n with
 | none=>simp[hg]at h
 | some g=>
  simp only[hg,Option.bind_some]at h ⊢
  have hlt:g < w.heap.size:=by
   rcases Nat.lt_or_ge g w.heap.size with h'|h'
   ·exact h'
   ·rw[Array.getElem?_eq_none h']at h;simp at h
  rw[Below.block hb g hlt]
  exact h
theorem YA {w:World}{p:Addr}{v:Value}(h:w.cell? p=some v):p.block<w.heap.size:=by
 rcases Nat.lt_or_ge p.block w.heap.size with h'|h'
 ·exact h'
 ·unfold World.cell? at h
  rw[Array.getElem?_eq_none h']at h
  simp at h
theorem Env.bl {w W:World}(h:Env w) (hb:Bl w W):Env W:=by
 obtain⟨h1,m,h2⟩:=h
 exact⟨qdf h1 hb,m,(Bl.qeV hb (YA h2)).trans h2⟩
theorem qb0 (w:World) (k:Nat) (os:Array Obj):Bl w (Sort.grow (w.drewN k) os):=by
 refine⟨rfl,rfl,rfl,by simp[Sort.grow],λb hb=>?_⟩
 simp only[Sort.grow]
 exact Array.getElem?_append_left hb
theorem J7 (w:World) (x:UInt8) :
  Calls Tryz.prog 186 #[.int .u8 (x.toNat:Int)] w λe w'=>e=.returned (.bool (Z0 x))/\∃q,w'=w.drewN q:=by
 have hx:=x.toNat_lt
 rw[qbv]
 by_cases h1:(48:Int)<=(x.toNat:Int)
 ·by_cases h2:(x.toNat:Int)<=57
  ·go_enter Tryz.func186,Tryz.ntmps186
   go_wp2
   go_ret
   exact⟨by simp[*],(by first|exact⟨_,rfl⟩|exact⟨0,rfl⟩|exact qf ⟨_,rfl⟩|exact qf (qf ⟨_,rfl⟩))⟩
  ·go_enter Tryz.func186,Tryz.ntmps186
   go_wp2
   go_ret
   exact⟨by simp[*],(by first|exact⟨_,rfl⟩|exact⟨0,rfl⟩|exact qf ⟨_,rfl⟩|exact qf (qf ⟨_,rfl⟩))⟩
 ·go_enter Tryz.func186,Tryz.ntmps186
  go_wp2
  go_ret
  exact⟨by rw[decide_eq_false (show ¬(48:Int)<=(x.toNat:Int)by omega)];rfl,(by first|exact⟨_,rfl⟩|exact⟨0,rfl⟩|exact qf ⟨_,rfl⟩|exact qf (qf ⟨_,rfl⟩))⟩
theorem QM (w:World) (s:ByteArray) (hs:s.size<=9223372036854775807) :
  Calls Tryz.prog 140 #[.string s] w λe w'=>e=.returned (.bool (yH (bl s)))/\∃q,w'=w.drewN q:=by
 have hidx:=λ(W:World) (i:Nat) (h:i<s.size)=>kz (P:=Tryz.prog) (t:=9) W s i h Tryz.underlying9
 go_enter Tryz.func140,Tryz.ntmps140
 go_wp2_with fail
 go_loopw [6] (λv wr=>∃i:Nat,v=.int .i64 (i:Int)/\i<=s.size/\Hid (∀j,j<i->Z0 (bt s j)=true)/\∃q,wr=w.drewN q) (λv _=>s.size-(intOf v).toNat)
 case atStart=>exact⟨0,rfl,by omega,λj hj=>by omega,0,rfl⟩
 case round=>
  obtain⟨i,rfl,hi,hz,q,rfl⟩:=hrel
  rcases Nat.lt_or_ge i s.size with hlt|hge
  ·have h1:=λW=>hidx W i hlt
   have hci:(i:Int)<(s.size:Int):=by omega
   clear hidx
   by_cases hd:Z0 (bt s i)=true
   ·have hz':Hid (∀j,j<i+1->Z0 (bt s j)=true):=Lib.hid λj hj=>by
     rcases Nat.lt_succ_iff_lt_or_eq.1 hj with h|h
     ·exact hz.out j h
     ·rw[h];exact hd
    go_wp2_with (go_at_call 186;refine(J7 _ _).mono ?_;rw[hd];rintro e w1 ⟨rfl,q1,rfl⟩)
    go_roundw
    case rel=>exact⟨i+1,by go_num,by omega,hz',(by first|exact⟨_,rfl⟩|exact⟨0,rfl⟩|exact qf ⟨_,rfl⟩|exact qf (qf ⟨_,rfl⟩))⟩
    case measure=>simp[intOf];omega
   ·have hfin:yH (bl s)=false:=Bool.eq_false_iff.2 λe=>hd (((Yh s).1 e).2 i hlt)
    have hd:=Bool.eq_false_iff.2 hd
    go_wp2_with (go_at_call 186;refine(J7 _ _).mono ?_;rw[hd];rintro e w1 ⟨rfl,q1,rfl⟩)
    go_ret
    exact⟨by first|rfl |(rw[hfin];rfl),(by first|exact⟨_,rfl⟩|exact⟨0,rfl⟩|exact qf ⟨_,rfl⟩|exact qf (qf ⟨_,rfl⟩))⟩
  ·obtain rfl:i=s.size:=by omega
   have hfin:yH (bl s)=!s.toList.isEmpty:=by
    rw[Bool.eq_iff_iff,Yh,yl,<-zZ]
    simp only[Bool.not_eq_true',List.isEmpty_eq_false_iff,ne_eq]
    exact⟨λh e=>by rw[e]at h;exact absurd h.1 (by simp),λh=>⟨List.length_pos_iff.2 h,by rw[zZ];exact hz.out⟩⟩
   clear hidx
   go_wp2_with fail
   go_ret
   exact⟨by first|rfl |(rw[hfin];rfl),(by first|exact⟨_,rfl⟩|exact⟨0,rfl⟩|exact qf ⟨_,rfl⟩|exact qf (qf ⟨_,rfl⟩))⟩
theorem zu (w:World) (N:Nat) (hN:N<=9223372036854775807) (he:Env w) :
  Calls Tryz.prog 77 #[.int .i64 (N:Int)] w λe w'=>e=.returned (.string (sb (dD N)))/\Bl w w':=by
 have h1:Lib.itoa (N:Int)=dD N:=by unfold Lib.itoa;rw[if_neg (by omega)];rfl
 have htab:=Lib.hid he.1
 clear he
 go_enter Tryz.func77,Tryz.ntmps77
 go_wp2_with (go_at_call 132;refine(Tryz.strconv_Itoa (N:Int) (by omega) (by omega) _ htab.out).mono ?_;rw[h1];rintro e w1 ⟨rfl,k,os,rfl⟩)
 go_ret
 exact⟨rfl,qb0 w k os⟩
theorem VZ (w:World) (l:List UInt8) (k:Nat) (hl:l.length<=1048576) (hk:k<=2000) :
  Calls Tryz.prog 149 #[.string (sb l),.int .i64 (k:Int)] w λe w'=>e=.returned (.string (sb (Xi l k)))/\Bl w w':=by
 have hs:=zt l
 have hk2:¬(2000:Int)<(k:Int):=by omega
 rcases Nat.lt_or_ge l.length k with h|h
 ·have hlt:¬(k:Int)<=((sb l).size:Int):=by omega
  have hsub:(k:Int)-((sb l).size:Int)=((k-l.length:Nat):Int):=by omega
  have hrep:Lib.repeatL [48] (k - l.length)=List.replicate (k - l.length) 48:=by
   generalize k-l.length=n
   induction n with
   | zero=>rfl
   | succ n ih=>rw[List.replicate_succ,<-ih];rfl
  have hadd:=λW=>jf (P:=Tryz.prog) W (List.replicate (k-l.length) 48) l (by rw[List.length_replicate];omega) (by omega)
  clear hs
  go_enter Tryz.func149,Tryz.ntmps149
  go_wp2_with (go_at_call 194;refine(Tryz.strings_Repeat (sb [48]) (k-l.length) _ (by omega) (by rw[zt];simp;omega)).mono ?_;rw[show (sb [48]).data.toList=[48]from rfl,hrep];rintro e w1 ⟨rfl,hb1⟩)
  go_ret
  exact⟨rfl,hb1⟩
 ·have hlt:(k:Int)<=((sb l).size:Int):=by omega
  have hfin:Xi l k=l:=by unfold Xi;rw[show k-l.length=0 by omega];rfl
  clear hs
  go_enter Tryz.func149,Tryz.ntmps149
  go_wp2
  go_ret
  exact⟨by first|rfl |(rw[hfin];rfl),slc⟩
structure Ob (bs:List Nat) (w W:World):Prop where
 os:W.os=w.os
 tape:W.tape=w.tape
 output:W.output=w.output
 size:w.heap.size<=W.heap.size
 block:∀k,k<w.heap.size->k∉bs->W.heap[k]?=w.heap[k]?
section
variable {T:TypeId}{bs cs:List Nat}{w W W2 w0:World}
theorem Ob.refl (bs:List Nat) (w:World):Ob bs w w:=⟨rfl,rfl,rfl,Nat.le_refl _,λ_ _ _=>rfl⟩
theorem Ob.trans (h:Ob bs w W) (k:Ob bs W W2):Ob bs w W2 :=
 ⟨k.os.trans h.os,k.tape.trans h.tape,k.output.trans h.output,Nat.le_trans h.size k.size,λb hb hn=>(k.block b (Nat.lt_of_lt_of_le hb h.size) hn).trans (h.block b hb hn)⟩
theorem Ob.mono (h:Ob bs w W) (hs:∀b∈bs,b∈cs):Ob cs w W:=⟨h.os,h.tape,h.output,h.size,λb hb hn=>h.block b hb λhm=>hn (hs b hm)⟩
theorem Ob.set (h:Ob bs w W) {g:Nat}(hg:g∈bs) (off:Nat) (u:Value):Ob bs w (W.setCell ⟨g,off,none⟩ u) :=
 ⟨h.os,h.tape,h.output,by simpa [World.setCell]using h.size,λk hk hn=>(Below.heap_setCell W _ u k (by intro e;exact hn (by rw[e];exact hg))).trans (h.block k hk hn)⟩
theorem Ob.of_bl (h:Bl w W) (bs:List Nat):Ob bs w W:=⟨h.os,h.tape,h.output,h.size,λk hk _=>h.block k hk⟩
theorem Bl.ob (h:Bl w0 w) (ho:Ob bs w W) (hb:∀b∈bs,w0.heap.size<=b):Bl w0 W :=
 ⟨ho.os.trans h.os,ho.tape.trans h.tape,ho.output.trans h.output,Nat.le_trans h.size ho.size,λk hk=>(ho.block k (Nat.lt_of_lt_of_le hk h.size) λhm=>by have:=hb k hm;omega).trans (h.block k hk)⟩
theorem Blk.ob {g:Nat}{xs:Array Value}(h:Blk w g T xs) (ho:Ob bs w W) (hg:g∉bs):Blk W g T xs:=(ho.block g h.lt hg).trans h
end
abbrev qeS (B b:Nat) (l:List UInt8) (w:World):Prop:=Lib.IsBuilder 145 5 B b (Lib.byteCells l) w
theorem vn (b:Nat) (w:World) (h0:w.cell? ⟨b,0,none⟩=some (.pointer (some ⟨b,0,none⟩))) :
  Calls Tryz.prog 168 #[.pointer (some ⟨b,0,none⟩)] w λe w'=>e=.returned (.tuple #[])/\w'=w:=by
 obtain⟨j,hj,_⟩:=Option.map_eq_some_iff.1 Tryz.Builder_Extra_169.sizeBuilder
 go_enter Tryz.func168,Tryz.ntmps168
 go_wp2
 rw[Lib.run_neq_ptr_same w _ Tryz.underlying143 hj]
 go_wp2
 go_end0
 exact⟨rfl,rfl⟩
theorem Yv (b:Nat) (w:World) (h0:w.cell? ⟨b,0,none⟩=some (.pointer none)) (hsh:w.shape? b=some (145,2)) (hfz:w.frozen? ⟨b,0,none⟩=false) :
  Calls Tryz.prog 168 #[.pointer (some ⟨b,0,none⟩)] w λe w'=>e=.returned (.tuple #[])/\w'=w.setCell ⟨b,0,none⟩ (.pointer (some ⟨b,0,none⟩)):=by
 obtain⟨j,hj,hjs⟩:=Option.map_eq_some_iff.1 Tryz.Builder_Extra_169.sizeBuilder
 go_enter Tryz.func168,Tryz.ntmps168
 go_wp2_with fail
 rw[Lib.run_to_unsafe w ⟨b,0,none⟩ Tryz.underlying143 Tryz.underlying213 hj (by rw[hjs];decide) hsh (Nat.zero_lt_succ 1)]
 simp only[Result.andThen]
 rw[Oper.upon_value]
 go_wp2_with fail
 rw[run_callFunc_extern Tryz.func221 (by kernel_rfl) (by kernel_rfl) (by kernel_rfl) (e:=Extern.AbiNoEscape.same) (by kernel_rfl)]
 rw[Lib.run_noEscape]
 simp only[Result.andThen]
 rw[Oper.upon_value]
 go_wp2_with fail
 rw[Lib.run_from_unsafe w ⟨b,0,none⟩ Tryz.underlying213 Tryz.underlying143 hj hsh Tryz.Builder_Extra_169.liesBuilder]
 simp only[Result.andThen]
 rw[Oper.upon_value]
 go_wp2_with fail
 go_end0
 exact⟨rfl,rfl⟩
theorem XL (l:List UInt8):Lib.strCells (sb l)=Lib.byteCells l:=rfl
theorem VQ (a b:List UInt8):Lib.byteCells (a++b)=Lib.byteCells a++Lib.byteCells b:=List.map_append
theorem VL (a:List UInt8):(Lib.byteCells a).length=a.length:=List.length_map _
def BdX (B b:Nat) (l:List UInt8) (xs:List Nat) (w:World):Prop :=
 ∃p v,(p=.pointer none\/p=.pointer (some ⟨b,0,none⟩))/\B<=b/\w.heap[b]?=some (.cells #[p,v] 145 (0,0))/\w.ownsRow B 5 1 v l.length (Lib.byteCells l)/\v.ownBlock≠some b/\b∉xs/\∀k,v.ownBlock=some k->k∉xs
theorem BdX.is {B b:Nat}{l:List UInt8}{xs:List Nat}{w:World}(h:BdX B b l xs w):qeS B b l w:=by
 obtain⟨p,v,hp,hB,hb,ho,hn,_⟩:=h
 have ho:w.ownsRow B 5 1 v (Lib.byteCells l).length (Lib.byteCells l):=by rw[VL];exact ho
 rcases hp with rfl|rfl
 ·exact .inl ⟨hB,v,hb,ho,hn⟩
 ·exact .inr ⟨hB,v,hb,ho,hn⟩
theorem Z8 {w W:World}{B:Nat}{e:TypeId}{v:Value}{n:Nat}{cs:List Value}(h:w.ownsRow B e 1 v n cs) (hk:∀k,v.ownBlock=some k->W.heap[k]?=w.heap[k]?):W.ownsRow B e 1 v n cs:=by
 obtain⟨h1,h2⟩:=h
 refine⟨h1,?_⟩
 rcases h2 with h2 |⟨g,cap,cur,rfl,h3,h4,h5⟩
 ·exact .inl h2
 ·exact .inr ⟨g,cap,cur,rfl,h3,(hk g rfl).trans h4,h5⟩
theorem BdX.lt {B b:Nat}{l:List UInt8}{xs:List Nat}{w:World}(h:BdX B b l xs w):b<w.heap.size:=by
 obtain⟨p,v,_,_,hb,_⟩:=h
 exact qV hb
theorem BdX.le {B b:Nat}{l:List UInt8}{xs:List Nat}{w:World}(h:BdX B b l xs w):B<=b:=by
 obtain⟨p,v,_,hB,_⟩:=h
 exact hB
theorem BdX.ob {B b:Nat}{l:List UInt8}{xs:List Nat}{w W:World}(h:BdX B b l xs w) (ho:Ob xs w W):BdX B b l xs W:=by
 obtain⟨p,v,hp,hB,hb,hw,hn,hx,hk⟩:=h
 exact⟨p,v,hp,hB,(ho.block b (qV hb) hx).trans hb,Z8 hw λk e=>ho.block k (hw.lt k e).2 (hk k e),hn,hx,hk⟩
theorem BdX.bl {B b:Nat}{l:List UInt8}{xs:List Nat}{w W:World}(h:BdX B b l xs w) (hb:Bl w W):BdX B b l xs W:=h.ob (Ob.of_bl hb _)
theorem BdX.sub {B b:Nat}{l:List UInt8}{xs ys:List Nat}{w:World}(h:BdX B b l xs w) (hy:∀y∈ys,y∈xs\/w.heap.size<=y):BdX B b l ys w:=by
 obtain⟨p,v,hp,hB,hb,hw,hn,hx,hk⟩:=h
 refine⟨p,v,hp,hB,hb,hw,hn,λm=>?_,λk e m=>?_⟩
 ·rcases hy b m with q|q
  ·exact hx q
  ·exact absurd (qV hb) (by omega)
 ·rcases hy k m with q|q
  ·exact hk k e q
  ·have:=(hw.lt k e).2
   omega
theorem BdX.fresh (w:World) (xs:List Nat) (hx:w.heap.size∉xs):BdX w.heap.size w.heap.size [] xs (w.alloc (.cells #[.pointer none,.slice none 0 0] 145)) :=
 ⟨_,_,.inl rfl,Nat.le_refl _,heap_alloc_new w _,World.ownsRow_nil _ _ _ _,by simp[Value.ownBlock],hx,by simp[Value.ownBlock]⟩
theorem xz {P:Program}(w:World) (base:Nat) (t u ty e:TypeId) (i:TypeInfo) (ht:P.underlying t=some (.slice e)) (hu:P.underlying u=some .string) (hi:P.info? e=some i) (hz:i.zero=some (.int .u8 0))
  (hsize:i.size=1) (hby:i.bytes=1) (v:Value) (n:Nat) (xs:List Value) (hown:w.ownsRow base e 1 v n xs) (s:ByteArray)
  (h63:n+s.size<=maxLen) (hbytes:n+s.size<=140737488355328) (hbase:base<=w.heap.size) :
  ∃v' w',(Builtin.append_ #[t,u] ty #[v,.string s]).run P w=.ok v' w'/\w'.ownsRow base e 1 v' (n+s.size) (xs++Lib.strCells s)/\w.grownBy w' v.ownBlock/\∀k,v'.ownBlock=some k->v.ownBlock=some k\/w.heap.size<=k:=by
 obtain⟨v',w',hr,h1,h2,h3⟩:=Lib.run_append_own_string (P:=P) w base t u ty e i ht hu hi hz hsize hby v n xs hown s h63 hbytes hbase
 refine⟨v',w',hr,h1,h2,?_⟩
 have h64:n+s.size<=9223372036854775807:=by unfold maxLen at h63;omega
 rcases hown.2 with ⟨rfl,rfl⟩ |⟨g,cap,cur,rfl,hbg,hg,hnc,hcm,hcs,htake⟩
 ·obtain⟨v2,w2,hr2,h4,_⟩:=Lib.run_append_own_string (P:=P) w w.heap.size t u ty e i ht hu hi hz hsize hby (.slice none 0 0) 0 xs (by obtain⟨hl,_⟩:=hown;exact⟨hl,.inl ⟨rfl,rfl⟩⟩) s h63 hbytes (Nat.le_refl _)
  rw[hr]at hr2
  cases hr2
  exact λk e=>.inr (h4.lt k e).1
 ·by_cases hroom:n+s.size<=cap
  ·have hcs':cur.size=cap:=by simpa using hcs
   have hr2:=Lib.run_append_room_string (P:=P) w t u ty e i ht hu hi hsize g n cap cur hg s hroom (by omega)
   rw[hr]at hr2
   cases hr2
   exact λk e=>.inl e
  ·have hxl:xs.length=n:=by simpa using hown.1
   have hr2:=Lib.run_append_grow_string (P:=P) w t u ty e i (.int .u8 0) ht hu hi hz ⟨g,0,none⟩ n cap xs (by rw[hsize];simpa using hxl) (hown.cells (g:=g) rfl) s (by omega) (by omega) (by rw[hby];exact growslice_fits (by omega) (by omega))
   rw[hr]at hr2
   cases hr2
   intro k e
   injection e with e
   exact .inr (by rw[<-e];exact Nat.le_refl _)
theorem Zq {P:Program}{ops:Array Oper}{rest:List Oper}{o:Oper}{a:Act}{w:World}{Q:Exit->Act->World->Prop}(hgd:o.guard=none) (sl x:Operand) (t u:TypeId)
  (ho:o.op=.call { callee:=.builtin .append,args:=#[sl,x],argTypes:=#[t,u] })
  (base:Nat) (e:TypeId) (i:TypeInfo) (ht:P.underlying t=some (.slice e)) (hu:P.underlying u=some .string) (hi:P.info? e=some i) (hz:i.zero=some (.int .u8 0))
  (hsize:i.size=1) (hby:i.bytes=1)
  (v:Value) (n:Nat) (xs:List Value) (hs:a.eval sl=v) (hown:w.ownsRow base e 1 v n xs) (s:ByteArray) (hx:a.eval x=.string s)
  (h63:n+s.size<=maxLen) (hbytes:n+s.size<=140737488355328) (hbase:base<=w.heap.size)
  (h:∀v' w',w'.ownsRow base e 1 v' (n+s.size) (xs++Lib.strCells s)->w.grownBy w' v.ownBlock->(∀k,v'.ownBlock=some k->v.ownBlock=some k\/w.heap.size<=k)->wpList P ops Q rest (a.put o.dst v') w'):wpList P ops Q (o::rest) a w:=by
 refine wpList_plain hgd λK hK=>?_
 obtain⟨v',w',hr,h2,h3,h4⟩:=xz (P:=P) w base t u o.type e i ht hu hi hz hsize hby v n xs hown s h63 hbytes hbase
 unfold Oper.wp execOp
 simp only[ho,resolve,invoke,builtin,Sem.run_bind,Sem.run_pure,Result.andThen_ok,List.map_toArray,List.map_cons,List.map_nil,hs,hx,hr]
 exact hK _ _ (h v' w' h2 h3 h4)
theorem zn (B b:Nat) (l t:List UInt8) (xs:List Nat) (w:World) (h:BdX B b l xs w) (hlen:l.length+t.length<=140737488355328) (hBw:B<=w.heap.size) (hxs:∀x∈xs,x<w.heap.size) :
  Calls Tryz.prog 121 #[.pointer (some ⟨b,0,none⟩),.string (sb t)] w λe w'=>e=.returned (.tuple #[.int .i64 (sb t).size,.nilIface])/\BdX B b (l++t) xs w'/\Below B w w'/\KeepsOthers w w'/\∀x∈xs,w'.heap[x]?=w.heap[x]?:=by
 obtain⟨i0,hi,hz0,hz1,hz2⟩:=info_parts Tryz.Builder_Extra_169.infoByte
 have hss:=zt t
 obtain⟨p,v,hp,hB,hbk,hown,hne,hbx,hkx⟩:=h
 have hlt:=qV hbk
 have hcc:Calls Tryz.prog 168 #[.pointer (some ⟨b,0,none⟩)] w λe w'=> e=.returned (.tuple #[])/\w'.heap[b]?=some (.cells #[.pointer (some ⟨b,0,none⟩),v] 145 (0,0))/\Ob [b] w w':=by
  rcases hp with rfl|rfl
  ·refine(Yv b w (by rw[Lib.cell_of_heap hbk];rfl) (by simp[World.shape?,hbk]) (Lib.frozen_of_heap hbk 0)).mono ?_
   rintro e w' ⟨rfl,rfl⟩
   exact⟨rfl,by simp[World.setCell,Array.getElem?_modify,hbk],Ob.set (Ob.refl _ _) (by simp) _ _⟩
  ·refine(vn b w (by rw[Lib.cell_of_heap hbk];rfl)).mono ?_
   rintro e w' ⟨rfl,rfl⟩
   exact⟨rfl,hbk,Ob.refl _ _⟩
 go_enter Tryz.func121,Tryz.ntmps121
 go_wp2_with (go_at_call 168;refine hcc.mono ?_)
 rintro e w1 ⟨rfl,hbk1,hob⟩
 have hown1:=Z8 (W:=w1) hown λk e=>hob.block k (hown.lt k e).2 (by simp;intro q;exact hne (by rw[e,q]))
 have c0:w1.cell? ⟨b,0,none⟩=some (.pointer (some ⟨b,0,none⟩)):=by rw[Lib.cell_of_heap hbk1];rfl
 have c1:w1.cell? ⟨b,1,none⟩=some v:=by rw[Lib.cell_of_heap hbk1];rfl
 have hs1:=hob.size
 go_wp2_with (at_builtin;refine Zq rfl _ _ 34 9 rfl B 5 i0 Tryz.underlying34 Tryz.underlying9 hi hz0 hz1 hz2 _ _ _ rfl hown1 (sb t) rfl ?c3 ?c4 ?c5 ?_)
 case c3=>unfold maxLen;omega
 case c4=>omega
 case c5=>omega
 intro v' w2 hown2 hgrow hwh
 have hb2:w2.heap[b]?=some (.cells #[.pointer (some ⟨b,0,none⟩),v] 145 (0,0)):=by
  rw[hgrow.block b (by omega) (λe=>hne e.symm)]
  exact hbk1
 have d0:w2.cell? ⟨b,0,none⟩=some (.pointer (some ⟨b,0,none⟩)):=by rw[Lib.cell_of_heap hb2];rfl
 have d1:w2.cell? ⟨b,1,none⟩=some v:=by rw[Lib.cell_of_heap hb2];rfl
 have f1:w2.frozen? ⟨b,1,none⟩=false:=Lib.frozen_of_heap hb2 1
 have hs2:=hgrow.size
 obtain⟨ao,n',cap,rfl⟩:∃ ao n' cap,v'=.slice ao n' cap:=by
  rcases hown2.2 with ⟨hv,_⟩ |⟨g,cap,cur,hv,_⟩
  ·exact⟨_,_,_,hv⟩
  ·exact⟨_,_,_,hv⟩
 have hneb:=Lib.ownBlock_ne hown2 hb2 Tryz.Builder_Extra_169.neB5
 have hset:∀k,k≠b->(w2.setCell ⟨b,1,none⟩ (.slice ao n' cap)).heap[k]?=w2.heap[k]?:=λk hk=>Below.heap_setCell _ _ _ _ hk
 have hkeep:∀k,k<w.heap.size->k≠b->v.ownBlock≠some k->(w2.setCell ⟨b,1,none⟩ (.slice ao n' cap)).heap[k]?=w.heap[k]?:=λk h1 h2 h3=>
  (hset k h2).trans ((hgrow.block k (by omega) (λe=>h3 e.symm)).trans (hob.block k h1 (by simpa using h2)))
 go_wp2_with fail
 go_ret2
 refine⟨rfl,⟨_,_,.inr rfl,hB,by simp[World.setCell,Array.getElem?_modify,hb2],?_,hneb,hbx,λk e=>?_⟩,⟨hgrow.os.trans hob.os,hgrow.tape.trans hob.tape,hgrow.output.trans hob.output,by simp[World.setCell];omega,λk hk=>?_⟩,⟨by simp[World.setCell];omega,λk o hk ho=>?_⟩,λx hx=>?_⟩
 ·rw[VQ,List.length_append,<-XL t,<-zt t]
  exact Z8 hown2 λk e=>hset k λq=>hneb (by rw[e,q])
 ·rcases hwh k e with q|q
  ·exact hkx k q
  ·exact λm=>absurd (hxs k m) (by omega)
 ·exact hkeep k (by omega) (by omega) (λe=>by have:=(hown.lt k e).1;omega)
 ·refine(hkeep k (qV hk) (λq=>?_) (λe=>?_)).trans hk
  ·rw[q,hbk]at hk
   cases hk
   cases ho
  ·rcases hown.2 with ⟨rfl,_⟩ |⟨g,cap,cur,rfl,_,hg,_⟩
   ·cases e
   ·injection e with e
    subst e
    rw[show (⟨g,0,none⟩:Addr).block=g from rfl,hg]at hk
    cases hk
    cases ho
 ·exact hkeep x (hxs x hx) (λq=>hbx (q ▸ hx)) (λe=>hkx x e hx)
theorem uu:(Tryz.prog.info? 28).map (λi=>(i.zero,i.size,i.bytes))=some (some (.agg #[.bool false,.slice none 0 0,.slice none 0 0,.bool false,.slice none 0 0,.slice none 0 0]),6,112):=by kernel_rfl
section
variable {T:TypeId}{lo hi b0:Nat}{w W:World}{s:Bool}{A:Option Addr}{n c:Nat}{B:Option Addr}{m d:Nat}{r:qH}{bs:List Nat}
end
def qaE (TI TP:TypeId) (lo hi:Nat) (w:World) (A:Option Addr) (n c:Nat) (l:List PtD):Prop :=
 l.length=n/\n<=c/\n<=1048576/\(n=0\/∃g cs fs,A=some ⟨g,0,none⟩/\Blk w g TP cs/\n*6<=cs.size/\qaf TI w cs l n fs/\Fp lo hi (g::fs.flatten))
section
variable {TI TP:TypeId}{lo hi lo' hi':Nat}{w W:World}{A:Option Addr}{n c:Nat}{l:List PtD}{bs:List Nat}
theorem qaE.rd (h:qaE TI TP lo hi w A n c l):qR w A n c l:=by
 obtain⟨h1,h2,h3,h4⟩:=h
 rcases h4 with h4 |⟨g,cs,fs,rfl,hB,hc,hP,hF⟩
 ·subst h4
  obtain rfl:=List.length_eq_zero_iff.1 h1
  exact RdS.nil _ _ _
 ·exact hP.rd hB h1 (by omega) h2
theorem qaE.low (h:qaE TI TP lo hi w A n c l) (h1:lo'<=lo) (h2:hi<=hi'):qaE TI TP lo' hi' w A n c l:=by
 obtain⟨a1,a2,a3,a4⟩:=h
 refine⟨a1,a2,a3,?_⟩
 rcases a4 with h4 |⟨g,cs,fs,rfl,hB,hc,hP,hF⟩
 ·exact .inl h4
 ·exact .inr ⟨g,cs,fs,rfl,hB,hc,hP,hF.mono h1 h2⟩
end
end Go.Proofs.YtjaapemopbbfaaaGreatDoor
