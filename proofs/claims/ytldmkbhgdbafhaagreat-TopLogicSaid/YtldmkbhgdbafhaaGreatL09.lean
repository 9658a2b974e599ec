import Derived.Ground.Names2Prog
import Derived.Ground.SlgfProg
import Derived.Ground.SlgnProg
import Derived.Ground.SlgqProg
import Derived.Shelf.Bits.Mul64
import Derived.Shelf.Slices.Cells
import Derived.Shelf.Slices.CompactI
import Derived.Shelf.Slices.SearchI
import Derived.Shelf.Slices.Turned
import Derived.Shelf.SlicesE.Clone
import Derived.Shelf.SlicesE.Compact
import Derived.Shelf.SlicesE.DeleteFunc
import Derived.Shelf.SlicesE.IndexFunc
import Derived.Shelf.SlicesQ.Equal
import Derived.Shelf.SlicesQ.IndexFunc
import Derived.Shelf.Small.Bits
import Derived.Shelf.Small.Wraps
import Derived.Shelf.Strconv.Itoa0
import Derived.Test.YtldmkbhgdbafhaaGreatProg
import Derived.Test.YtldmkbhgdbafhaaGreatL00
namespace Go.Proofs
open Go.Shelf
def Tryz.lays264_ren:Go.Shelf.Ren:=⟨fun | 264=>217 | n=>n,fun | 53=>264 | 46=>227 | n=>n,fun | n=>n⟩
theorem Tryz.lays264:Go.Proofs.Lays.n264 Tryz.prog Tryz.lays264_ren:= {
 mixed:=by kernel_rfl
 f264:=Tryz.func217.trans (congrArg some (by kernel_rfl))
 t46:=Tryz.underlying227
 a46:=Tryz.isAgg227
 z46:=Tryz.sizeOf227
 v46:=Tryz.zeroValue227
 t53:=Tryz.underlying264
 a53:=Tryz.isAgg264
 z53:=Tryz.sizeOf264
 v53:=Tryz.zeroValue264 }
open Go.RowKit Go.Lib in
theorem Tryz.bits_Mul64 (x y:Nat) (a:x<18446744073709551616) (b:y<18446744073709551616) (w:World):
 Calls Tryz.prog 217 #[.int .u64 x,.int .u64 y] w fun e c=>e=.returned (.tuple #[.int .u64 ((x*y/18446744073709551616:Nat):Int),.int .u64 ((x*y%18446744073709551616:Nat):Int)])/\c=w:=Any.bits_Mul64 Tryz.lays264 x y a b w
def Tryz.lays107_ren:Go.Shelf.Ren:=⟨fun | 107=>99 | 108=>140 | n=>n,fun | 28=>108 | 3=>3 | 4=>4 | 0=>0 | n=>n,fun | n=>n⟩
theorem Tryz.lays107:Go.Proofs.Lays.n107 Tryz.prog Tryz.lays107_ren:= {
 mixed:=by kernel_rfl
 f107:=Tryz.func99.trans (congrArg some (by kernel_rfl))
 f108:=Tryz.func140.trans (congrArg some (by kernel_rfl))
 t0:=Tryz.underlying0
 a0:=Tryz.isAgg0
 z0:=Tryz.sizeOf0
 v0:=Tryz.zeroValue0
 t3:=Tryz.underlying3
 a3:=Tryz.isAgg3
 z3:=Tryz.sizeOf3
 v3:=Tryz.zeroValue3
 t4:=Tryz.underlying4
 a4:=Tryz.isAgg4
 z4:=Tryz.sizeOf4
 v4:=Tryz.zeroValue4
 t28:=Tryz.underlying108
 a28:=Tryz.isAgg108
 z28:=Tryz.sizeOf108
 v28:=Tryz.zeroValue108 }
open Go.Lib in
theorem Tryz.slices_Contains_int (b a n c:Nat) (f:List Int) (x:Int) (w:World) (h:n<=f.length) (d:n<=9223372036854775807) (g:∀j,j<f.length->w.cell? ⟨b,a+j,none⟩=some (.int .i64 (f.getD j 0))):
 Calls Tryz.prog 99 #[.slice (some ⟨b,a,none⟩) n c,.int .i64 x] w fun e i=>e=.returned (.bool ((f.take n).contains x))/\i=w:=Any.slices_Contains_int Tryz.lays107 b a n c f x w h d g
open Go.Lib in
theorem Tryz.slices_Contains_int_empty (a:Option Addr) (c:Nat) (x:Int) (w:World):
 Calls Tryz.prog 99 #[.slice a 0 c,.int .i64 x] w fun e b=>e=.returned (.bool false)/\b=w:=Any.slices_Contains_int_empty Tryz.lays107 a c x w
def Tryz.laysNm220_ren:Go.Shelf.Ren:=⟨fun | 20=>94 | n=>n,fun | 22=>108 | 3=>3 | 4=>4 | 0=>0 | n=>n,fun | n=>n⟩
theorem Tryz.laysNm220:Go.Proofs.Lays2.n20 Tryz.prog Tryz.laysNm220_ren:= {
 mixed:=by kernel_rfl
 f20:=Tryz.func94.trans (congrArg some (by kernel_rfl))
 t0:=Tryz.underlying0
 a0:=Tryz.isAgg0
 z0:=Tryz.sizeOf0
 v0:=Tryz.zeroValue0
 t3:=Tryz.underlying3
 a3:=Tryz.isAgg3
 z3:=Tryz.sizeOf3
 v3:=Tryz.zeroValue3
 t4:=Tryz.underlying4
 a4:=Tryz.isAgg4
 z4:=Tryz.sizeOf4
 v4:=Tryz.zeroValue4
 t22:=Tryz.underlying108
 a22:=Tryz.isAgg108
 z22:=Tryz.sizeOf108
 v22:=Tryz.zeroValue108
 i3:=by kernel_rfl }
open Go.RowKit Go.Lib Go.Sort in
theorem Tryz.slices_Compact_int (a b c:Nat) (d:List Int) (w:World) (h:Holds (Value.int .i64) w a b d.toArray) (g:d.length<=9223372036854775807) (f:d.length<=c):
 Calls Tryz.prog 94 #[.slice (some ⟨a,b,none⟩) d.length c] w fun e i=>e=.returned (.slice (some ⟨a,b,none⟩) (Lib.compact d).length c)/\∃q,i=putRow (Value.int .i64) (Sort.ahead w q) a b (Lib.compact d++List.replicate (d.length - (Lib.compact d).length) 0).toArray:=Any.slices_Compact_int Tryz.laysNm220 a b c d w h g f
open Go.RowKit Go.Lib Go.Sort in
theorem Tryz.slices_Compact_int_empty (a:Option Addr) (b:Nat) (w:World):
 Calls Tryz.prog 94 #[.slice a 0 b] w fun e c=>e=.returned (.slice a 0 b)/\c=w:=Any.slices_Compact_int_empty Tryz.laysNm220 a b w
def Tryz.laysSlE041_f218_ren:Go.Shelf.Ren:=⟨fun | 41=>218 | n=>n,fun | 22=>36 | 23=>221 | 4=>4 | n=>n,fun | n=>n⟩
theorem Tryz.laysSlE041_f218:Go.Proofs.SlLaysE0.n41 Tryz.prog Tryz.laysSlE041_f218_ren:= {
 mixed:=by kernel_rfl
 f41:=⟨Tryz.f218.name,by decide,Tryz.func218.trans (congrArg some (by kernel_rfl))⟩
 t4:=Tryz.underlying4
 a4:=Tryz.isAgg4
 z4:=Tryz.sizeOf4
 v4:=Tryz.zeroValue4
 t22:=Tryz.underlying36
 a22:=Tryz.isAgg36
 z22:=Tryz.sizeOf36
 v22:=Tryz.zeroValue36 }
open Go.RowKit Go.Lib in
theorem Tryz.slices_Clone (g:TypeInfo) (z:Value) (size bytes:Nat) (t:Tryz.prog.info? 221=some g) (i:g.zero=some z) (k:g.size=size) (l:g.bytes=bytes) (m:z.cells.size=size) (h:0<size) (p:∀w,(Go.sizeOf 221).run Tryz.prog w=.ok size w) (b d n c:Nat) (a:List Value) (w:World) (v:a.length=n*size) (x:n<=maxLen) (f:n*bytes<=140737488355328) (s:∀j u,a[j]? =some u->w.cell? ⟨b,d+j,none⟩=some u) (r:∀u∈a,u.oneCell'=true):
 Calls Tryz.prog 218 #[.slice (some ⟨b,d,none⟩) n c] w fun e q=>∃o,e=.returned o/\q.ownsRow w.heap.size 221 size o n a/\o≠.slice none 0 0/\Below w.heap.size w q:=AnyE.slices_Clone Tryz.laysSlE041_f218 g z size bytes t i k l m h p b d n c a w v x f s r
open Go.RowKit Go.Lib in
theorem Tryz.slices_Clone_nil (n c:Nat) (w:World):
 Calls Tryz.prog 218 #[.slice none n c] w fun e a=>e=.returned (.slice none 0 0)/\a=w:=AnyE.slices_Clone_nil Tryz.laysSlE041_f218 n c w
def Tryz.laysSlH6_f139_ren:Go.Shelf.Ren:=⟨fun | 6=>139 | n=>n,fun | 22=>108 | 23=>3 | 25=>194 | 3=>3 | 0=>0 | 4=>4 | n=>n,fun | n=>n⟩
theorem Tryz.laysSlH6_f139:Go.Proofs.SlLaysH.n6 Tryz.prog Tryz.laysSlH6_f139_ren:= {
 mixed:=by kernel_rfl
 f6:=⟨Tryz.f139.name,by decide,Tryz.func139.trans (congrArg some (by kernel_rfl))⟩
 t0:=Tryz.underlying0
 a0:=Tryz.isAgg0
 z0:=Tryz.sizeOf0
 v0:=Tryz.zeroValue0
 t3:=Tryz.underlying3
 a3:=Tryz.isAgg3
 z3:=Tryz.sizeOf3
 v3:=Tryz.zeroValue3
 t4:=Tryz.underlying4
 a4:=Tryz.isAgg4
 z4:=Tryz.sizeOf4
 v4:=Tryz.zeroValue4
 t22:=Tryz.underlying108
 a22:=Tryz.isAgg108
 z22:=Tryz.sizeOf108
 v22:=Tryz.zeroValue108
 a23:=Tryz.isAgg3
 z23:=Tryz.sizeOf3
 t25:=Tryz.underlying194
 a25:=Tryz.isAgg194
 z25:=Tryz.sizeOf194
 v25:=Tryz.zeroValue194 }
open Go.RowKit Go.Lib in
theorem Tryz.slices_IndexFunc_empty {α:Type} [Inhabited α] (a:Option Addr) (c:Nat) (b:Value) (w:World):
 Calls Tryz.prog 139 #[.slice a 0 c,b] w fun e d=>e=.returned (.int .i64 (-1))/\d=w:=AnyE.slices_IndexFunc_empty Tryz.laysSlH6_f139 a c b w
def Tryz.laysSlH8_f114_ren:Go.Shelf.Ren:=⟨fun | 8=>114 | 6=>139 | n=>n,fun | 22=>108 | 23=>3 | 25=>194 | 4=>4 | 3=>3 | 0=>0 | n=>n,fun | n=>n⟩
theorem Tryz.laysSlH8_f114:Go.Proofs.SlLaysH.n8 Tryz.prog Tryz.laysSlH8_f114_ren:= {
 mixed:=by kernel_rfl
 f6:=⟨Tryz.f139.name,by decide,Tryz.func139.trans (congrArg some (by kernel_rfl))⟩
 f8:=⟨Tryz.f114.name,by decide,Tryz.func114.trans (congrArg some (by kernel_rfl))⟩
 t0:=Tryz.underlying0
 a0:=Tryz.isAgg0
 z0:=Tryz.sizeOf0
 v0:=Tryz.zeroValue0
 t3:=Tryz.underlying3
 a3:=Tryz.isAgg3
 z3:=Tryz.sizeOf3
 v3:=Tryz.zeroValue3
 t4:=Tryz.underlying4
 a4:=Tryz.isAgg4
 z4:=Tryz.sizeOf4
 v4:=Tryz.zeroValue4
 t22:=Tryz.underlying108
 a22:=Tryz.isAgg108
 z22:=Tryz.sizeOf108
 v22:=Tryz.zeroValue108
 a23:=Tryz.isAgg3
 z23:=Tryz.sizeOf3
 t25:=Tryz.underlying194
 a25:=Tryz.isAgg194
 z25:=Tryz.sizeOf194
 v25:=Tryz.zeroValue194 }
open Go.RowKit Go.Lib in
theorem Tryz.slices_ContainsFunc {α:Type} [Inhabited α] (enc:α->Value) (p:α->Bool) (g:Nat) (h:Array Value) (i:∀args w,(callFunc g args).run Tryz.prog w=.ok (.enter g args) w) (b a n c:Nat) (f:List α) (w:World) (l:PredAt Tryz.prog g h enc p w) (m:n<=f.length) (d:n<=9223372036854775807) (k:∀j,j<f.length->w.cell? ⟨b,a+j,none⟩=some (enc f[j]!)):
 Calls Tryz.prog 114 #[.slice (some ⟨b,a,none⟩) n c,.func (.func g) #[] h] w fun e o=>e=.returned (.bool ((f.take n).any p))/\∃q,o=w.drewN q:=AnyE.slices_ContainsFunc Tryz.laysSlH8_f114 enc p g h i b a n c f w l m d k
def Tryz.laysSlH10_f97_ren:Go.Shelf.Ren:=⟨fun | 10=>97 | 6=>139 | n=>n,fun | 22=>108 | 23=>3 | 25=>194 | 3=>3 | 4=>4 | 0=>0 | n=>n,fun | n=>n⟩
theorem Tryz.laysSlH10_f97:Go.Proofs.SlLaysH.n10 Tryz.prog Tryz.laysSlH10_f97_ren:= {
 mixed:=by kernel_rfl
 f6:=⟨Tryz.f139.name,by decide,Tryz.func139.trans (congrArg some (by kernel_rfl))⟩
 f10:=⟨Tryz.f97.name,by decide,Tryz.func97.trans (congrArg some (by kernel_rfl))⟩
 t0:=Tryz.underlying0
 a0:=Tryz.isAgg0
 z0:=Tryz.sizeOf0
 v0:=Tryz.zeroValue0
 t3:=Tryz.underlying3
 a3:=Tryz.isAgg3
 z3:=Tryz.sizeOf3
 v3:=Tryz.zeroValue3
 t4:=Tryz.underlying4
 a4:=Tryz.isAgg4
 z4:=Tryz.sizeOf4
 v4:=Tryz.zeroValue4
 t22:=Tryz.underlying108
 a22:=Tryz.isAgg108
 z22:=Tryz.sizeOf108
 v22:=Tryz.zeroValue108
 a23:=Tryz.isAgg3
 z23:=Tryz.sizeOf3
 t25:=Tryz.underlying194
 a25:=Tryz.isAgg194
 z25:=Tryz.sizeOf194
 v25:=Tryz.zeroValue194 }
open Go.RowKit Go.Lib Go.Sort in
theorem Tryz.slices_DeleteFunc {α:Type} [Inhabited α] (enc:α->Value) (o:OneCell enc) (p:α->Bool) (g:Nat) (h:Array Value) (m:∀args w,(callFunc g args).run Tryz.prog w=.ok (.enter g args) w) (l:α) (k:∀w,(zeroValue 3).run Tryz.prog w=.ok (enc l) w) (a b c:Nat) (d:Array α) (w:World) (r:PredAt Tryz.prog g h enc p w) (i:PredOver Tryz.prog g h enc p a b d.size w) (n:Holds enc w a b d) (j:d.size<=9223372036854775807) (f:d.size<=c):
 Calls Tryz.prog 97 #[.slice (some ⟨a,b,none⟩) d.size c,.func (.func g) #[] h] w fun e s=>e=.returned (.slice (some ⟨a,b,none⟩) (d.toList.filter fun x=>!p x).length c)/\∃q,s=putRow enc (Sort.ahead w q) a b ((d.toList.filter fun x=>!p x)++List.replicate (d.size - (d.toList.filter fun x=>!p x).length) l).toArray:=AnyE.slices_DeleteFunc Tryz.laysSlH10_f97 enc o p g h m l k a b c d w r i n j f
def Tryz.laysSlH08_f91_ren:Go.Shelf.Ren:=⟨fun | 8=>91 | 6=>131 | n=>n,fun | 22=>24 | 23=>26 | 25=>75 | 4=>4 | 3=>3 | 0=>0 | n=>n,fun | n=>n⟩
theorem Tryz.laysSlH08_f91:Go.Proofs.SlLaysH0.n8 Tryz.prog Tryz.laysSlH08_f91_ren:= {
 mixed:=by kernel_rfl
 f6:=⟨Tryz.f131.name,by decide,Tryz.func131.trans (congrArg some (by kernel_rfl))⟩
 f8:=⟨Tryz.f91.name,by decide,Tryz.func91.trans (congrArg some (by kernel_rfl))⟩
 t0:=Tryz.underlying0
 a0:=Tryz.isAgg0
 z0:=Tryz.sizeOf0
 v0:=Tryz.zeroValue0
 t3:=Tryz.underlying3
 a3:=Tryz.isAgg3
 z3:=Tryz.sizeOf3
 v3:=Tryz.zeroValue3
 t4:=Tryz.underlying4
 a4:=Tryz.isAgg4
 z4:=Tryz.sizeOf4
 v4:=Tryz.zeroValue4
 t22:=Tryz.underlying24
 a22:=Tryz.isAgg24
 z22:=Tryz.sizeOf24
 v22:=Tryz.zeroValue24
 t25:=Tryz.underlying75
 a25:=Tryz.isAgg75
 z25:=Tryz.sizeOf75
 v25:=Tryz.zeroValue75 }
open Go.RowKit Go.Lib in
theorem Tryz.slices_ContainsFunc_f91 {α:Type} [Inhabited α] (k:Nat) (l:∀w,(isAgg 26).run Tryz.prog w=.ok true w) (y:∀w,(Go.sizeOf 26).run Tryz.prog w=.ok k w) (enc:α->List Value) (r:∀x,(enc x).length=k) (p:α->Bool) (g:Nat) (h:Array Value) (m:∀args w,(callFunc g args).run Tryz.prog w=.ok (.enter g args) w) (b a n c:Nat) (f:List α) (w:World) (s:PredBelow Tryz.prog g h (fun x=>.agg (enc x).toArray) p w) (t:n<=f.length) (d:n<=9223372036854775807) (o:b<w.heap.size) (q:∀j,j<f.length->∀i v,(enc f[j]!)[i]? =some v->w.cell? ⟨b,a+j*k+i,none⟩=some v):
 Calls Tryz.prog 91 #[.slice (some ⟨b,a,none⟩) n c,.func (.func g) #[] h] w fun e u=>e=.returned (.bool ((f.take n).any p))/\Below w.heap.size w u:=AnyQ.slices_ContainsFunc Tryz.laysSlH08_f91 k l y enc r p g h m b a n c f w s t d o q
end Go.Proofs
