/- TOP, part 3. -/
import Derived.Ground.Names2Prog
import Derived.Ground.SlgnProg
import Derived.Shelf.Bits.Mul64
import Derived.Shelf.Slices.Clone
import Derived.Shelf.Slices.In.SortNone
import Derived.Shelf.Slices.Turned
import Derived.Shelf.SlicesE.Clone
import Derived.Shelf.Small.Bits
import Derived.Shelf.Small.Strs
import Derived.Shelf.Small.Utf8
import Derived.Shelf.Sort.Plain
import Derived.Shelf.Strconv.Itoa0
import Derived.Shelf.Strings.AsciiSet
import Derived.Shelf.Strings.Builder1
import Derived.Shelf.Strings.Builder2
import Derived.Shelf.Strings.BuilderF
import Derived.Shelf.Strings.BuilderK
import Derived.Shelf.Strings.Prefix
import Derived.Shelf.Strings.Repeat
import Derived.Shelf.Strings.Runes
import Derived.Shelf.Strings.Search1
import Derived.Shelf.Strings.Trim
import Derived.Shelf.Unicode.Decode
import Derived.Shelf.Unicode.DecodeAny
import Derived.Shelf.Unicode.DecodeLast
import Derived.Shelf.Unicode.DecodeSlow
import Derived.Test.YtpopikndggffaaaGreatDoorProg
import Derived.Test.YtpopikndggffaaaGreatDoorGt0
namespace Go.Proofs.YtpopikndggffaaaGreatDoor
set_option linter.all false
set_option maxRecDepth 100000
set_option maxHeartbeats 16000000
open Go.RowKit Tryz
section
open Go.Shelf
def lr0:Go.Shelf.Ren:=⟨fun|99=>167|105=>298|107=>224|108=>267|119=>247|120=>186|125=>135|128=>200|129=>201|137=>246|151=>126|152=>185|160=>50|165=>306|166=>302|169=>303|170=>307|190=>89|197=>125|206=>235|212=>305|217=>287|224=>248|225=>249|227=>80|228=>124|231=>78|232=>79|233=>81|234=>82|235=>83|236=>84|240=>309|241=>313|258=>134|260=>184|263=>311|264=>312|266=>299|271=>127|276=>314|277=>315|302=>191|303=>192|304=>193|305=>194|306=>195|307=>196|308=>197|309=>198|310=>199|329=>253|330=>254|333=>252|334=>255|335=>256|336=>257|344=>289|n=>n,fun|28=>33|31=>118|37=>110|46=>202|51=>250|53=>23|70=>340|72=>342|75=>344|76=>345|80=>347|105=>192|109=>351|116=>145|117=>146|119=>295|124=>149|127=>355|131=>183|138=>297|139=>298|146=>356|148=>358|164=>360|182=>254|183=>255|218=>304|222=>308|228=>331|229=>315|n=>n,fun|3=>1|4=>2|n=>n⟩
def bx:Builder.Extra prog lr0:=by constructor<;>first|(intros;kernel_rfl)|decide|(constructor<;>kernel_rfl)
def cv6:Go.Proofs.Lays.n160 prog lr0:=by constructor<;>intros<;>kernel_rfl
open Go.RowKit Go.Lib in
def bw9:Go.Proofs.Lays.n190 prog lr0:=by constructor<;>intros<;>kernel_rfl
open Go.Sort Go.RowKit in
def slices_Sort_string(a b c:Nat)(f:List (List bB))(w:aI)(h:Holds encStr w a b f.toArray)(d:a<w.heap.size)(g:f.length<4611686018427387904):Calls prog 89 #[.slice (some ⟨a,b,none⟩) f.length c] w λe j=>e=.returned (.tuple #[])/\∃n i,j=grow (putRow encStr (Sort.ahead w n) a b (f.mergeSort λx y=>decide (x<=y)).toArray) i:=Any.slices_Sort_string bw9 a b c f w h d g
open Go.RowKit Go.Lib in
def ay2:Go.Proofs.Lays.n105 prog lr0:=by constructor<;>intros<;>kernel_rfl
open Go.Lib in
def bx0:Go.Proofs.Lays.n107 prog lr0:=by constructor<;>intros<;>kernel_rfl
open Go.Lib in
def slices_Contains_int(b a n c:Nat)(zs:List Int)(x:Int)(w:aI)(g:n<=zs.length)(d:n<=9223372036854775807)(f:∀j,j<zs.length->w.cell? ⟨b,a+j,none⟩=some (.int .i64 (zs.getD j 0))):Calls prog 224 #[.slice (some ⟨b,a,none⟩) n c,.int .i64 x] w λe h=>e=.returned (.bool ((zs.take n).contains x))/\h=w:=Any.slices_Contains_int bx0 b a n c zs x w g d f
open Go.Lib in
def slices_Contains_int_empty(a:Option Addr)(c:Nat)(x:Int)(w:aI):Calls prog 224 #[.slice a 0 c,.int .i64 x] w λe b=>e=.returned (.bool false)/\b=w:=Any.slices_Contains_int_empty bx0 a c x w
def lr1:Go.Shelf.Ren:=⟨fun|15=>57|n=>n,fun|22=>33|n=>n,fun n=>n⟩
def U7:Go.Proofs.Lays2.n15 prog lr1:=by constructor<;>intros<;>kernel_rfl
open Go.RowKit Go.Lib in
def slices_Clone_int(b a n c:Nat)(zs:List Int)(w:aI)(i:n<=zs.length)(d:n*8<=140737488355328)(h:∀j,j<zs.length->w.cell? ⟨b,a+j,none⟩=some (.int .i64 (zs.getD j 0))):Calls prog 57 #[.slice (some ⟨b,a,none⟩) n c] w λe g=>∃f,e=.returned f/\g.ownsRow w.heap.size 3 1 f n ((zs.take n).map (Value.int .i64))/\f≠.slice none 0 0/\aR w.heap.size w g:=Any.slices_Clone_int U7 b a n c zs w i d h
open Go.RowKit Go.Lib in
def slices_Clone_int_nil(n c:Nat)(w:aI):Calls prog 57 #[.slice none n c] w λe a=>e=.returned (.slice none 0 0)/\a=w:=Any.slices_Clone_int_nil U7 n c w
open Go.RowKit Go.Lib in
def slices_Clone_int_zero(a:Addr)(c:Nat)(w:aI):Calls prog 57 #[.slice (some a) 0 c] w λe d=>∃b,e=.returned b/\d.ownsRow w.heap.size 3 1 b 0 []/\b≠.slice none 0 0/\aR w.heap.size w d:=Any.slices_Clone_int_zero U7 a c w
open Go.RowKit Go.Sort in
def slices_Sort_string_none(p:Option Addr)(a:Nat)(w:aI):Calls prog 89 #[.slice p 0 a] w λe b=>e=.returned (.tuple #[])/\b=w:=Any.slices_Sort_string_none bw9 p a w
def lr2:Go.Shelf.Ren:=⟨fun|41=>57|n=>n,fun|22=>33|23=>3|n=>n,fun n=>n⟩
def ZX:Go.Proofs.SlLaysE0.n41 prog lr2:=by constructor<;>first|(intros;kernel_rfl)|exact⟨_,by decide,func57⟩
open Go.RowKit Go.Lib in
def slices_Clone(i0:TypeInfo)(z:aN)(a f:Nat)(v:prog.info? 3=some i0)(k:i0.zero=some z)(l:i0.size=a)(m:i0.bytes=f)(o:z.cells.size=a)(i:0<a)(q:∀w,(Go.sizeOf 3).run prog w=.ok a w)(b g n c:Nat)(d:List aN)(w:aI)(x:d.length=n*a)(y:n<=maxLen)(h:n*f<=140737488355328)(t:∀j u,d[j]?=some u->w.cell? ⟨b,g+j,none⟩=some u)(s:∀u∈d,u.oneCell'=true):Calls prog 57 #[.slice (some ⟨b,g,none⟩) n c] w λe r=>∃p,e=.returned p/\r.ownsRow w.heap.size 3 a p n d/\p≠.slice none 0 0/\aR w.heap.size w r:=AnyE.slices_Clone ZX i0 z a f v k l m o i q b g n c d w x y h t s
end
section
open Go.Lib Go.Shelf
def strings_Repeat(s:aS)(c:Nat)(w:aI)(b:c<=9223372036854775807)(a:s*c<=140737488355328):Calls prog 298 #[s,c] w λe d=>e=.returned (.string ⟨(Lib.repeatL s.data.toList c).toArray⟩)/\aR w w d:=Any.strings_Repeat ay2 bx s c w b a
def ON(w:aI)(B b:Nat)(l:List bB):Prop:=Lib.IsBuilderF 342 5 B b (Lib.byteCells l) w
def ON.next{w x:aI}{B b:Nat}{Q:List bB}(h:ON w B b Q)(a:aR w w x):ON x B b Q:=by
 have d:∀p,Lib.BuilderAtF 342 5 B b p (Lib.byteCells Q) w->Lib.BuilderAtF 342 5 B b p (Lib.byteCells Q) x:=by rintro p ⟨g,v,f,c,e⟩;exact⟨g,v,(a.block b (fG.1 f).1).trans f,c.kept (row:=none) ⟨a.os,a.tape,a.output,a.size,λk i _=>a.block k i⟩ (Classical.em _),e⟩
 exact h.elim (λj=>.inl (d _ j)) (λj=>.inr (d _ j))
def ON.new(w:aI):ON (w.alloc (.cells #[.pointer none,zs] 342)) w w []:=Lib.IsBuilderF.of (.inl ⟨dQ,zs,heap_alloc_new w _,bM _ _ _ _,by simp[Value.ownBlock]⟩)
def BF(B b:Nat)(l:List bB)(s:aS)(w:aI)(h:ON w B b l)(c:l+s.size<=140737488355328)(d:B<=w):Calls prog 302 #[zp b,s] w λe f=>e=.returned (.tuple #[s.size,.nilIface])/\ON f B b (l++s.data.toList)/\aR B w f:=by go_call Any.Builder_WriteString_f {ay2 with} bx B b (Lib.byteCells l) s w h (by simpa[Lib.byteCells]using c) d as e f ⟨i,g,a⟩;refine⟨i,?_,a⟩;have:Lib.byteCells l++Lib.strCells s=Lib.byteCells (l++s.data.toList):=(by simp[Lib.byteCells,Lib.strCells]);rw[this]at g;exact .inr g
def ae0(B b:Nat)(l:List bB)(w:aI)(h:ON w B b l)(a:B<=w):Calls prog 303 #[zp b] w λe c=>e=.returned (.string ⟨l.toArray⟩)/\aR B w c:=(Any.Builder_String_any_f {ay2 with} {bx with} B b l w h a).mono λe c h=>⟨h.1,h.2.2⟩
end
end Go.Proofs.YtpopikndggffaaaGreatDoor
