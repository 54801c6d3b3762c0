/- YtipbekclhmbclaaGreatDoorX00: walks and contracts. -/
import Derived.Below
import Derived.Calls
import Derived.Laws.Rows
import Derived.Maps.AppendAt
import Derived.Scope
import Derived.Orders
import Derived.Laws.CopyRow
import Derived.Laws.Cells
import Derived.Laws.StructEq
import Derived.ChangeKeysEq
import Derived.Great.BuildSlice
import Derived.Deep.AppendSrc

set_option linter.unusedVariables false
set_option linter.unusedSimpArgs false
set_option linter.unusedSectionVars false

namespace Go.Abs
theorem Q0{p:Prop}[Decidable p]:(decide p=true)=p:=decide_eq_true_eq
theorem Q1{p:Prop}[Decidable p]:(decide p=false)↔¬p:=decide_eq_false_iff_not
theorem Q2{b:Bool}:((!b)=true)=(b=false):=by cases b<;>simp
theorem Q3{b:Bool}:((!b)=false)=(b=true):=by cases b<;>simp
theorem Q4(n:Nat):(n:Int).toNat=n:=Int.toNat_natCast n
theorem Q5{α:Type _}[BEq α][LawfulBEq α]{a b:α}:(a == b)=true↔a=b:=beq_iff_eq
theorem Q6{p q:Prop}[Decidable p][Decidable q]:(decide p=decide q)↔(p↔q):=decide_eq_decide
theorem Q7{α:Type _}[BEq α][LawfulBEq α]{a b:α}:(a == b)=false↔a≠b:=beq_eq_false_iff_ne
theorem Q8{α:Sort _}(a b:α):(a≠b) = ¬(a=b):=ne_eq a b
theorem QC{p:Prop}(h:p:=by first|exact PSub.rfl|exact rfl|exact PSubs.rfl|exact trivial|exact PSub.lit_sb rfl):p:=h
theorem QD{p:Prop}(h:p:=by repeat'(first|exact QC|refine And.intro ?_ ?_)):p:=h
theorem QB{c:Bool}{A B:Prop}(x:c=true→A)(y:c=false→B):(c=true→A)∧(c=false→B):=⟨x,y⟩
theorem QI{p q:Prop}(y:q)(x:p:=by(try simp only[Int.toNat_natCast]);omega):p∧q:=⟨x,y⟩
theorem QK{c:Bool}{q:Prop}(y:q)(x:c=true:=by kernel_rfl):c=true∧q:=⟨x,y⟩
theorem QW{p q r:Prop}(y:q)(x:p:=by exact wrap64 (by omega)):(p∧q)∨r:=.inl ⟨x,y⟩
theorem QE{p:Prop}(h:p:=by repeat'(first|exact PSub.rfl|exact PSub.nil_ro _ _|exact PSub.lit_sb rfl|exact trivial|exact Z01|refine PSub.agg ?_|refine PSub.ro rfl ?_|refine Z00 ?_ ?_|refine And.intro ?_ ?_)):p:=h
theorem qa:∀ {a b:Prop},a→b→a∧b:=@And.intro
theorem qb:∀ {α:Type _} {xs:Array α} {i:Nat} {d:α},Array.getD xs i d=Option.getD xs[i]? d:=@Array.getD_eq_getD_getElem?
theorem qc:∀(a b:Bool),((a&&b)=true)=(a=true∧b=true):=@Bool.and_eq_true
theorem qd:∀ {x y:Bool},(x&&y)=false↔x=false∨y=false:=@Bool.and_eq_false_iff
theorem qe:∀(n:Nat),0≤n:=@Nat.zero_le
theorem qf:∀ {α:Type _} {i:Nat} {a:α} {l:List α},l[i]? = some a↔∃h:i<List.length l,l[i]=a:=@List.getElem?_eq_some_iff
theorem qg:∀ {n m:Nat},Nat.beq n m=true→n=m:=@Nat.eq_of_beq_eq_true
theorem qh:∀(b:Bool),(false=b)=(b=false):=@Bool.false_eq
theorem qi:∀ {n m:Nat},Nat.ble n m=true→n≤m:=@Nat.le_of_ble_eq_true
theorem qj:∀(b:Bool),(true=b)=(b=true):=@Bool.true_eq
theorem qk:∀ {α:Type _} {b:α} {l:List α} {a:α},a∈b::l↔a=b∨a∈l:=@List.mem_cons
theorem ql:∀ {α:Type _} {as bs:List α},List.length (as++bs)=List.length as+List.length bs:=@List.length_append
theorem qm:∀ {α:Type _} {l:List α} {i j:Nat},(List.take i l)[j]? = if j<i then l[j]? else none:=@List.getElem?_take
theorem qn:∀ {α:Type _} {i:Nat} {a:α} {l:List α},a∈List.take i l→a∈l:=@List.mem_of_mem_take
theorem qo:∀ {α:Type _} {a:α} {s t:List α},a∈s++t↔a∈s∨a∈t:=@List.mem_append
theorem qp:∀ {α:Type _} {a:α} {l:List α},a∈l→∃i,∃h:i<List.length l,l[i]=a:=@List.getElem_of_mem
theorem qq:∀ {α:Type _} {i:Nat} {l:List α},List.length (List.take i l)=min i (List.length l):=@List.length_take
theorem qr:∀ {α:Type _} {l₁ l₂:List α} {i:Nat},i<List.length l₁→(l₁++l₂)[i]? = l₁[i]?:=@List.getElem?_append_left
theorem qt:∀ {a b:Bool},a=b↔(a=true↔b=true):=@Bool.eq_iff_iff
theorem qu:∀ {n m:Nat} (k:Nat),n≤m→n*k≤m*k:=@Nat.mul_le_mul_right
theorem qv:∀ {α:Type _} {l₁ l₂:List α} {i:Nat},List.length l₁≤i→(l₁++l₂)[i]? = l₂[i-List.length l₁]?:=@List.getElem?_append_right
theorem qw:∀ {α:Type _} (val val_1:α),(some val=some val_1)=(val=val_1):=@Option.some.injEq
theorem qx:∀ {α:Type _} {β:Type _} {f:α→β} {l:List α} {i:Nat},(List.map f l)[i]? = Option.map f l[i]?:=@List.getElem?_map
theorem qy:∀ {α:Type _} {a:α} {as:List α},List.length (a::as)=List.length as+1:=@List.length_cons
theorem qz:∀ {α:Type _} {p:α→Bool} {l:List α},List.all l p=true↔∀(x:α),x∈l→p x=true:=@List.all_eq_true
theorem qA:∀ {α:Type _} {xs:List α} {i j:Nat},(List.drop i xs)[j]? = xs[i+j]?:=@List.getElem?_drop
theorem qB:∀ {p:Prop} [inst:Decidable p],p→decide p=true:=@decide_eq_true
theorem qC:∀ {p:Prop} [inst:Decidable p],decide p=true→p:=@of_decide_eq_true
theorem qD:∀ {n m k:Nat},n<m→m≤k→n<k:=@Nat.lt_of_lt_of_le
theorem qE:∀ {α:Type _} {l:List α} {n:Nat} (h:n<List.length l),l[n]∈l:=@List.getElem_mem
theorem qF:∀ {n m k:Nat},n≤m→m≤k→n≤k:=@Nat.le_trans
theorem qG:∀ {p:Prop} [inst:Decidable p],¬p→decide p=false:=@decide_eq_false
theorem qH:∀ {α:Type _} {as:List α},List.length (List.reverse as)=List.length as:=@List.length_reverse
theorem qI:∀ {α:Type _} {l:List α} {i:Nat} {a:α},List.getD l i a=Option.getD l[i]? a:=@List.getD_eq_getElem?_getD
theorem qJ:∀ {c:Prop} {h:Decidable c},¬c→∀ {α:Sort _} {t e:α},(if c then t else e)=e:=@if_neg
theorem qK:∀ {c:Prop} {h:Decidable c},c→∀ {α:Sort _} {t e:α},(if c then t else e)=t:=@if_pos
theorem qL:∀(n:Nat),n≤n:=@Nat.le_refl
theorem qM:∀(n:Nat),¬n<n:=@Nat.lt_irrefl
theorem qN:∀ {α:Type _} {val val_1:α},some val=some val_1→val=val_1:=@Option.some.inj
theorem qO:∀ {α:Type _} {l₁ l₂:List α} {i:Nat},(l₁++l₂)[i]? = if i<List.length l₁ then l₁[i]? else l₂[i-List.length l₁]?:=@List.getElem?_append
theorem qP:∀ {α:Type _} {xs:Array α} {i:Nat} {f:α→α} {j:Nat},(Array.modify xs i f)[j]? = if i=j then Option.map f xs[j]? else xs[j]?:=@Array.getElem?_modify
theorem qQ:∀ {α:Type _} {R:α→α→Prop} {a:α} {l:List α},List.Pairwise R (a::l)↔(∀(a':α),a'∈l→R a a')∧List.Pairwise R l:=@List.pairwise_cons
open Go.RowKit
inductive Leaf where
 |int (k:IntKind)
 |str
 |bool
def Leaf.has:Leaf->Value->Prop
 | .int k,v=>∃n,v = .int k n
 | .str,v=>∃s,v = .string s
 | .bool,v=>∃b,v = .bool b
def Leaf.eqv:Value->Value->Bool
 | .int _ a,.int _ b=>a == b
 | .string a,.string b=>a == b
 | .bool a,.bool b=>a == b
 |_,_=>false
def eqvs:List Value->List Value->Bool
 |x::xs,y::ys=>Leaf.eqv x y&&eqvs xs ys
 |_,_=>true
inductive KK where
 |one (l:Leaf)
 |agg (ls:List Leaf)
def KK.has:KK->Value->Prop
 | .one l,v=>l.has v
 | .agg ls,v=>∃vs:Array Value,v = .agg vs∧vs.size=ls.length∧∀(i:Nat) (l:Leaf),ls[i]? = some l->l.has (vs.getD i undef)
structure MapWf (es:Array MapEntry) (clock:Nat):Prop where
 born:∀(i:Nat) (e:MapEntry),es[i]? = some e->e.born<clock
 inj:∀(i j:Nat) (e e':MapEntry),es[i]? = some e->es[j]? = some e'->e.born=e'.born->i=j
 key:∀(i j:Nat) (e e':MapEntry),es[i]? = some e->es[j]? = some e'->e.key=e'.key->i=j
def KeysOf(kk:KK)(es:Array MapEntry)(clock:Nat):Prop:=(∀(i:Nat) (e:MapEntry),es[i]? = some e->kk.has e.key)∧MapWf es clock
inductive PV where
 |val (v:Value)
 |sb (b:Bool)
 |agg (cs:List PV)
 |tup (vs:List PV)
 |ro (size n:Nat) (f:Nat->List PV)
 |cap0
 |cell (cs:List PV)
 |map (kk:KK) (look:Value->Option PV)
 |nn (p:PV)
 |ifc (t:TypeId) (p:PV)
class Globals where
 get:Nat->Option (List PV)
inductive PR (w:World) (M:Nat->Prop):PV->Value->Prop where
 |val (v:Value):PR w M (.val v) v
 |sb (b:Bool):PR w M (.sb b) (.bool b)
 |agg (cs:List PV) (vs:Array Value) (hl:vs.size=cs.length) (h:∀i p,cs[i]? = some p->PR w M p (vs.getD i undef))
   (h1:∀i,i<vs.size->(vs.getD i undef).oneCell'=true):PR w M (.agg cs) (.agg vs)
 |tup (cs:List PV) (vs:Array Value) (hl:vs.size=cs.length) (h:∀i p,cs[i]? = some p->PR w M p (vs.getD i undef)):PR w M (.tup cs) (.tuple vs)
 |ro (size n:Nat) (f:Nat->List PV) (a:Option Addr) (cap:Nat) (u:Nat->Nat->Value) (hcap:n<=cap) (hmax:cap<=maxLen) (hz:a=none->cap=0)
   (hs:∀i,i<n->(f i).length=size)
   (ha:0<n->∃ad,a=some ad∧ad.block<w.heap.size∧¬M ad.block∧∀i,i<n->∀j,j<size->w.cell? (ad.add (i*size+j))=some (u i j)∧(u i j).oneCell'=true)
   (h:∀i,i<n->∀j p,(f i)[j]? = some p->PR w M p (u i j)):PR w M (.ro size n f) (.slice a n cap)
 |cap0 (a:Option Addr):PR w M .cap0 (.slice a 0 0)
 |cell (cs:List PV) (ad:Addr) (u:Nat->Value) (hb:ad.block<w.heap.size) (hM:¬M ad.block)
   (hc:∀j,j<cs.length->w.cell? (ad.add j)=some (u j)∧(u j).oneCell'=true)
   (h:∀j p,cs[j]? = some p->PR w M p (u j)):PR w M (.cell cs) (.pointer (some ad))
 |map (kk:KK) (look:Value->Option PV) (r:Nat) (es:Array MapEntry) (clock:Nat) (em:Value->Nat) (ev:Value->Value) (hr:w.heap[r]? = some (.map es clock)) (hM:¬M r)
   (hk:KeysOf kk es clock) (hf:∀k p,kk.has k->look k=some p->(∃e:MapEntry,es[em k]? = some e∧e.key=k∧e.val=ev k)∧∀(j:Nat) (e:MapEntry),j<em k->es[j]? = some e->e.key≠k)
   (h:∀k p,kk.has k->look k=some p->PR w M p (ev k))
   (hn:∀k,kk.has k->look k=none->∀(j:Nat) (e:MapEntry),es[j]? = some e->e.key≠k):PR w M (.map kk look) (.map (some r))
 |nn (p:PV) (ad:Addr) (n c:Nat) (h:PR w M p (.slice (some ad) n c)):PR w M (.nn p) (.slice (some ad) n c)
 |ifc (t:TypeId) (p:PV) (v:Value) (h:PR w M p v):PR w M (.ifc t p) (.iface t v)
def Same(M:Nat->Prop)(w w':World):Prop:=w.heap.size<=w'.heap.size∧∀b,b<w.heap.size->¬M b->w'.heap[b]? = w.heap[b]?
theorem Same.refl(M:Nat->Prop)(w:World):Same M w w:=⟨qL _,fun _ _ _=>rfl⟩
theorem Same.trans{M:Nat->Prop}{a b c:World}(h:Same M a b)(k:Same M b c):Same M a c:=
 ⟨qF h.1 k.1,fun i hi hm=>(k.2 i (qD hi h.1) hm).trans (h.2 i hi hm)⟩
theorem Same.mono{M M':Nat->Prop}{a b:World}(h:Same M a b)(hm:∀i,i<a.heap.size->M i->M' i):Same M' a b:=
 ⟨h.1,fun i hi hn=>h.2 i hi (fun x=>hn (hm i hi x))⟩
theorem cell?_same{w w':World}{a:Addr}(h:w'.heap[a.block]? = w.heap[a.block]?):w'.cell? a=w.cell? a:=by
 unfold World.cell?;rw[h]
theorem Z1g(a:Addr)(n:Nat):(a.add n).block=a.block:=by unfold Addr.add;split<;>rfl
theorem Z57(a:Addr)(i j:Nat):(a.add i).add j=a.add (i+j):=by
 unfold Addr.add
 by_cases hi:i=0<;>by_cases hj:j=0<;>simp[hi,hj,Nat.add_assoc]
theorem add_zero(a:Addr):a.add 0=a:=by simp[Addr.add]
theorem PR.mono{w w':World}{M M':Nat->Prop}{p:PV}{v:Value}(h:PR w M p v)(hs:Same M w w')(hm:∀b,b<w.heap.size->M' b->M b):PR w' M' p v:=by
 induction h with
 |val v=>exact .val v
 |sb b=>exact .sb b
 |agg cs vs hl _ h1 ih=>exact .agg cs vs hl ih h1
 |tup cs vs hl _ ih=>exact .tup cs vs hl ih
 |ro size n f a cap u hcap hmax hz hsz ha _ ih=>
  refine .ro size n f a cap u hcap hmax hz hsz (fun hn=>?_) ih;obtain⟨ad,e,hb,hM,hc⟩:=ha hn;refine⟨ad,e,qD hb hs.1,fun x=>hM (hm _ hb x),fun i hi j hj=>?_⟩;rw[cell?_same (w:=w)]
  ·exact hc i hi j hj
  rw[Z1g];exact hs.2 _ hb hM
 |cap0 a=>exact .cap0 a
 |cell cs ad u hb hM hc _ ih=>
  refine .cell cs ad u (qD hb hs.1) (fun x=>hM (hm _ hb x)) (fun j hj=>?_) ih;rw[cell?_same (w:=w)]
  ·exact hc j hj
  rw[Z1g];exact hs.2 _ hb hM
 |nn p ad n c _ ih=>exact .nn p ad n c ih
 |ifc t p v _ ih=>exact .ifc t p v ih
 |map kk look r es clock em ev hr hM hk hf _ hn ih=>
  have hb:r<w.heap.size:=by
   rcases Nat.lt_or_ge r w.heap.size with hlt|hge
   ·exact hlt
   rw[Array.getElem?_eq_none hge]at hr;cases hr
  exact .map kk look r es clock em ev ((hs.2 r hb hM).trans hr) (fun x=>hM (hm _ hb x)) hk hf ih hn
structure PSub (p q:PV):Prop where
 to:∀(w:World) (M:Nat->Prop) (v:Value),PR w M p v->PR w M q v
theorem PSub.rfl{p:PV}:PSub p p:=⟨fun _ _ _ h=>h⟩
theorem PSub.trans{p q r:PV}(h:PSub p q)(k:PSub q r):PSub p r:=⟨fun w M v x=>k.to w M v (h.to w M v x)⟩
theorem PSub.of_eq{p q:PV}(h:p=q):PSub p q:=h▸PSub.rfl
theorem PSub.sb{b c:Bool}(h:b=c):PSub (.sb b) (.sb c):=h▸PSub.rfl
theorem PSub.lit_sb{b c:Bool}(h:b=c):PSub (.val (.bool b)) (.sb c):=by
 subst h;exact⟨fun w M v h=>by cases h;exact .sb _⟩
theorem PSub.sb_lit{b c:Bool}(h:b=c):PSub (.sb b) (.val (.bool c)):=by
 subst h;exact⟨fun w M v h=>by cases h;exact .val _⟩
theorem PSub.int{k:IntKind}{n m:Int}(h:n=m):PSub (.val (.int k n)) (.val (.int k m)):=h▸PSub.rfl
theorem PSub.str{s t:ByteArray}(h:s=t):PSub (.val (.string s)) (.val (.string t)):=h▸PSub.rfl
def PSubs:List PV->List PV->Prop
 | [],[]=>True
 |p::ps,q::qs=>PSub p q∧PSubs ps qs
 |_,_=>False
theorem PSubs.rfl:∀ {l:List PV},PSubs l l
 | []=>trivial
 |_::_=>⟨PSub.rfl,PSubs.rfl⟩
theorem PSubs.length:∀ {l k:List PV},PSubs l k->l.length=k.length
 | [],[],_=>by simp
 |_::_,_::_,h=>by simp[PSubs.length h.2]
 | [],_::_,h=>h.elim
 |_::_,[],h=>h.elim
theorem PSubs.get:∀ {l k:List PV},PSubs l k->∀(i:Nat) (q:PV),k[i]? = some q->∃p,l[i]? = some p∧PSub p q
 |p::_,_::_,h,0,r,e=>⟨p,by simp,by simp at e;exact e▸h.1⟩
 |_::_,_::_,h,i+1,r,e=>by simpa using PSubs.get h.2 i r (by simpa using e)
 | [],[],_,i,q,e=>by simp at e
theorem PSub.agg{l k:List PV}(h:PSubs l k):PSub (.agg l) (.agg k):=by
 constructor;intro w M v hv;cases hv with
 |agg cs vs hl hh h1=>exact .agg k vs (hl.trans h.length) (fun i q e=>by obtain⟨p,hp,hs⟩:=h.get i q e;exact hs.to _ _ _ (hh i p hp)) h1
theorem PSub.tup{l k:List PV}(h:PSubs l k):PSub (.tup l) (.tup k):=by
 constructor;intro w M v hv;cases hv with
 |tup cs vs hl hh=>exact .tup k vs (hl.trans h.length) (fun i q e=>by obtain⟨p,hp,hs⟩:=h.get i q e;exact hs.to _ _ _ (hh i p hp))
theorem PSub.cell{l k:List PV}(h:PSubs l k):PSub (.cell l) (.cell k):=by
 constructor;intro w M v hv;cases hv with
 |cell cs ad u hb hM hc hh=>exact .cell k ad u hb hM (by rw[<-h.length];exact hc) (fun i q e=>by obtain⟨p,hp,hs⟩:=h.get i q e;exact hs.to _ _ _ (hh i p hp))
theorem PSub.nil_ro(size:Nat)(f:Nat->List PV):PSub (.val (.slice none 0 0)) (.ro size 0 f):=by
 constructor;intro w M v hv;cases hv;exact .ro size 0 f none 0 (fun _ _=>undef) (qL _) (qe _) (fun _=>Eq.refl _) (fun i h=>absurd h (by omega)) (fun h=>absurd h (by omega)) (fun i h=>absurd h (by omega))
theorem PSub.map{kk:KK}{f g:Value->Option PV}(h:∀k,kk.has k->f k=g k):PSub (.map kk f) (.map kk g):=by
 constructor;intro w M v hv;cases hv with
 |map _ _ r es clock em ev hr hM hk hf hh hn=>
  exact .map kk g r es clock em ev hr hM hk (fun k p h1 h2=>hf k p h1 ((h k h1).trans h2)) (fun k p h1 h2=>hh k p h1 ((h k h1).trans h2)) (fun k h1 h2=>hn k h1 ((h k h1).trans h2))
theorem PSub.nn{p:PV}:PSub (.nn p) p:=by
 constructor;intro w M v hv;cases hv with
 |nn p ad n c h=>exact h
theorem PSub.ro{size n m:Nat}{f g:Nat->List PV}(hn:n=m)(h:∀i,i<n->PSubs (f i) (g i)):PSub (.ro size n f) (.ro size m g):=by
 subst hn;constructor;intro w M v hv;cases hv with
 |ro _ _ _ a cap u hcap hmax hz hs ha hh=>
  refine .ro size n g a cap u hcap hmax hz (fun i hi=>(h i hi).length▸hs i hi) ha (fun i hi j q e=>?_);obtain⟨p,hp,hs⟩:=(h i hi).get j q e;exact hs.to _ _ _ (hh i hi j p hp)
inductive AV where
 |pv (p:PV)
 |junk
 |ptr (l:Nat) (off:Nat)
 |eptr (l:Nat) (size i j:Nat)
 |own (l:Nat)
 |part (l:Nat) (size i n:Nat)
 |ref (l:Nat)
 |fn (f:FuncId) (caps:List AV)
 |clo (dom:List PV->Prop) (isB:Bool) (gb:List PV->Bool) (gi:List PV->Int)
 |mix (cells:List AV)
inductive AObj where
 |pbox (cells:List PV)
 |box (cells:List AV)
 |row (size n:Nat) (f:Nat->List PV)
 |map (kk:KK) (look:Value->Option PV)
 |siter (s:ByteArray) (pos:Nat)
 |miter (kk:KK) (look:Value->Option PV) (seen:List Value)
 |gone
def refs:AV->List Nat
 | .ptr l _=>[l]
 | .eptr l _ _ _=>[l]
 | .own l=>[l]
 | .part l _ _ _=>[l]
 | .ref l=>[l]
 | .fn _ caps=>refsL caps
 | .mix cs=>refsL cs
 | .pv _=>[]
 | .junk=>[]
 | .clo _ _ _ _=>[]
where refsL:List AV->List Nat
 | []=>[]
 |c::cs=>refs c++refsL cs
def refsO:AObj->List Nat
 | .box cs=>refs.refsL cs
 |_=>[]
theorem Z07:∀ {cs:List AV} {i:Nat} {c:AV},cs[i]? = some c->∀l∈refs c,l∈refs.refsL cs
 | [],i,c,h=>by simp at h
 |x::cs,0,c,h=>by
  simp at h;subst h;intro l hl;simp[refs.refsL,hl]
 |x::cs,i+1,c,h=>by
  intro l hl;have:=Z07 (cs:=cs) (i:=i) (c:=c) (by simpa using h) l hl;simp[refs.refsL,this]
structure Loc where
 ref:Value
 blk:Option Nat
abbrev Sig:=Nat->Option Loc
def owned(σ:Sig)(b:Nat):Prop:=∃l loc,σ l=some loc∧loc.blk=some b
def Mof(M0:Nat->Prop)(σ:Sig)(b:Nat):Prop:=M0 b∨owned σ b
structure FExt (F:Nat->Prop) (w w':World):Prop where
 os:w'.os=w.os
 tape:w'.tape=w.tape
 output:w'.output=w.output
 size:w.heap.size<=w'.heap.size
 block:∀b,b<w.heap.size->¬F b->w'.heap[b]? = w.heap[b]?
 drawn:w.drawn<=w'.drawn
theorem FExt.refl(F:Nat->Prop)(w:World):FExt F w w:=⟨rfl,rfl,rfl,qL _,fun _ _ _=>rfl,qL _⟩
theorem FExt.trans{F:Nat->Prop}{a b c:World}(h:FExt F a b)(k:FExt F b c):FExt F a c:=
 ⟨k.os.trans h.os,k.tape.trans h.tape,k.output.trans h.output,qF h.size k.size,fun i hi hf=>(k.block i (qD hi h.size) hf).trans (h.block i hi hf),qF h.drawn k.drawn⟩
theorem FExt.mono{F F':Nat->Prop}{a b:World}(h:FExt F a b)(hf:∀i,i<a.heap.size->F i->F' i):FExt F' a b:=
 ⟨h.os,h.tape,h.output,h.size,fun i hi hn=>h.block i hi (fun x=>hn (hf i hi x)),h.drawn⟩
theorem FExt.same{F:Nat->Prop}{a b:World}(h:FExt F a b):Same F a b:=⟨h.size,h.block⟩
def cloRes(isB:Bool)(gb:List PV->Bool)(gi:List PV->Int)(xs:List PV):PV:=
 match isB with
 |true=>.sb (gb xs)
 |false=>.val (.int .i64 (gi xs))
def CloSpec(P:Program)(w:World)(C:Nat->Prop)(f:FuncId)(caps:Array Value)(dom:List PV->Prop)(g:List PV->PV):Prop:=
 (∀(vals:Array Value) (w:World),(callFunc f vals).run P w = .ok (.enter f vals) w)∧∀(w':World) (M:Nat->Prop) (xs:List PV) (vals:Array Value),dom xs->w.heap.size<=w'.heap.size->(∀b,C b->w'.heap[b]? = w.heap[b]?)->vals.size=xs.length->
  (∀i x,xs[i]? = some x->PR w' M x (vals.getD i undef))->
  Calls P f (vals++caps) w' (fun e w''=>∃r,e = .returned r∧PR w'' M (g xs) r∧FExt (fun _=>False) w' w'')
inductive AR (P:Program) (w:World) (St M:Nat->Prop) (σ:Sig):AV->Value->Prop where
 |pv (p:PV) (v:Value) (h:PR w M p v):AR P w St M σ (.pv p) v
 |junk (v:Value):AR P w St M σ .junk v
 |ptr (l off:Nat) (v:Value) (h:∀loc,σ l=some loc->∃b,loc.blk=some b∧v = .pointer (some ⟨b,off,none⟩)):AR P w St M σ (.ptr l off) v
 |eptr (l size i j:Nat) (v:Value) (h:∀loc,σ l=some loc->∃b,loc.blk=some b∧v = .pointer (some ⟨b,i*size+j,none⟩)):AR P w St M σ (.eptr l size i j) v
 |own (l:Nat) (v:Value) (h:∀loc,σ l=some loc->v=loc.ref):AR P w St M σ (.own l) v
 |part (l size i n:Nat) (v:Value) (h:∀loc,σ l=some loc->∃a c,v = .slice a n c∧n<=c∧c<=maxLen∧(0<n->∃b,loc.blk=some b∧a=some ⟨b,i*size,none⟩)):AR P w St M σ (.part l size i n) v
 |ref (l:Nat) (v:Value) (h:∀loc,σ l=some loc->v=loc.ref):AR P w St M σ (.ref l) v
 |fn (f:FuncId) (caps:List AV) (vs:Array Value) (hl:vs.size=caps.length) (h:∀i c,caps[i]? = some c->AR P w St M σ c (vs.getD i undef)):AR P w St M σ (.fn f caps) (.func (.func f) #[] vs)
 |clo (dom:List PV->Prop) (isB:Bool) (gb:List PV->Bool) (gi:List PV->Int) (f:FuncId) (caps:Array Value) (C:Nat->Prop) (hC:∀b,C b->St b∧b<w.heap.size)
   (h:CloSpec P w C f caps dom (cloRes isB gb gi)):AR P w St M σ (.clo dom isB gb gi) (.func (.func f) #[] caps)
 |mix (cs:List AV) (vs:Array Value) (hl:vs.size=cs.length) (h:∀i c,cs[i]? = some c->AR P w St M σ c (vs.getD i undef)) (h1:∀i,i<vs.size->(vs.getD i undef).oneCell'=true):AR P w St M σ (.mix cs) (.agg vs)
theorem AR.mono{P:Program}{w w':World}{St M M':Nat->Prop}{σ σ':Sig}{x:AV}{v:Value}(h:AR P w St M σ x v)(hs:Same M w w')(hm:∀b,b<w.heap.size->M' b->M b)
  (hSt:∀b,St b->b<w.heap.size->w'.heap[b]? = w.heap[b]?) (hσ:∀l∈refs x,∀loc,σ' l=some loc->σ l=some loc):AR P w' St M' σ' x v:=by
 induction h with
 |pv p v h=>exact .pv p v (h.mono hs hm)
 |junk v=>exact .junk v
 |ptr l off v h=>exact .ptr l off v (fun loc e=>h loc (hσ l (by simp[refs]) loc e))
 |eptr l size i j v h=>exact .eptr l size i j v (fun loc e=>h loc (hσ l (by simp[refs]) loc e))
 |own l v h=>exact .own l v (fun loc e=>h loc (hσ l (by simp[refs]) loc e))
 |part l size i n v h=>exact .part l size i n v (fun loc e=>h loc (hσ l (by simp[refs]) loc e))
 |ref l v h=>exact .ref l v (fun loc e=>h loc (hσ l (by simp[refs]) loc e))
 |fn f caps vs hl _ ih=>exact .fn f caps vs hl (fun i c e=>ih i c e (fun l hl loc hh=>hσ l (by simp only[refs];exact Z07 e l hl) loc hh))
 |mix cs vs hl _ h1 ih=>exact .mix cs vs hl (fun i c e=>ih i c e (fun l hl loc hh=>hσ l (by simp only[refs];exact Z07 e l hl) loc hh)) h1
 |clo dom isB gb gi f caps C hC h=>
  refine .clo dom isB gb gi f caps C (fun b hb=>⟨(hC b hb).1,qD (hC b hb).2 hs.1⟩) ?_;refine⟨h.1,?_⟩;intro w2 M2 xs vals hd hsz hb hl hx;exact h.2 w2 M2 xs vals hd (qF hs.1 hsz) (fun b hc=>(hb b hc).trans (hSt b (hC b hc).1 (hC b hc).2)) hl hx
inductive OR (P:Program) (w:World) (St M:Nat->Prop) (σ:Sig):AObj->Loc->Prop where
 |pbox (cs:List PV) (b:Nat) (vs:Array Value) (t:TypeId) (hb:w.heap[b]? = some (.cells vs t (0,0))) (hl:vs.size=cs.length)
   (h:∀i p,cs[i]? = some p->PR w M p (vs.getD i undef)) (h1:∀i,i<vs.size->(vs.getD i undef).oneCell'=true):OR P w St M σ (.pbox cs) ⟨.pointer (some ⟨b,0,none⟩),some b⟩
 |box (cs:List AV) (b:Nat) (vs:Array Value) (t:TypeId) (hb:w.heap[b]? = some (.cells vs t (0,0))) (hl:vs.size=cs.length)
   (h:∀i p,cs[i]? = some p->AR P w St M σ p (vs.getD i undef)) (h1:∀i,i<vs.size->(vs.getD i undef).oneCell'=true):OR P w St M σ (.box cs) ⟨.pointer (some ⟨b,0,none⟩),some b⟩
 |row0 (size:Nat) (f:Nat->List PV) (a:Option Addr):OR P w St M σ (.row size 0 f) ⟨.slice a 0 0,none⟩
 |row (size n:Nat) (f:Nat->List PV) (b cap:Nat) (vs:Array Value) (t:TypeId) (hb:w.heap[b]? = some (.cells vs t (0,0))) (hn:n<=cap) (hmax:cap<=maxLen) (hsz:vs.size=cap*size)
   (hs:∀i,i<n->(f i).length=size) (h:∀i,i<n->∀j p,(f i)[j]? = some p->PR w M p (vs.getD (i*size+j) undef))
   (h1:∀i,i<vs.size->(vs.getD i undef).oneCell'=true):OR P w St M σ (.row size n f) ⟨.slice (some ⟨b,0,none⟩) n cap,some b⟩
 |map (kk:KK) (look:Value->Option PV) (r:Nat) (es:Array MapEntry) (clock:Nat) (em:Value->Nat) (ev:Value->Value) (hr:w.heap[r]? = some (.map es clock))
   (hk:KeysOf kk es clock) (hf:∀k p,kk.has k->look k=some p->(∃e:MapEntry,es[em k]? = some e∧e.key=k∧e.val=ev k)∧∀(j:Nat) (e:MapEntry),j<em k->es[j]? = some e->e.key≠k)
   (h:∀k p,kk.has k->look k=some p->PR w M p (ev k))
   (hn:∀k,kk.has k->look k=none->∀(j:Nat) (e:MapEntry),es[j]? = some e->e.key≠k):OR P w St M σ (.map kk look) ⟨.map (some r),some r⟩
 |siter (s:ByteArray) (pos r:Nat) (hr:w.heap[r]? = some (.stringIter s pos)):OR P w St M σ (.siter s pos) ⟨.pointer (some ⟨r,0,none⟩),some r⟩
 |miter (kk:KK) (look:Value->Option PV) (seen:List Value) (r m:Nat) (es:Array MapEntry) (clock:Nat) (sb:Array Nat) (hr:w.heap[r]? = some (.mapIter (some m) clock sb clock)) (hp:PR w M (.map kk look) (.map (some m)))
   (hm:w.heap[m]? = some (.map es clock)) (hM:¬M m) (hs:∀(i:Nat) (e:MapEntry),es[i]? = some e->(e.born∈sb↔e.key∈seen)) (hl:∀k s,seen=k::s->∃(i:Nat) (e:MapEntry),es[i]? = some e∧e.key=k∧sb.back? = some e.born):OR P w St M σ (.miter kk look seen) ⟨.pointer (some ⟨r,0,none⟩),some r⟩
theorem Z0e{w:World}{b:Nat}{o:Obj}(h:w.heap[b]? = some o):b<w.heap.size:=by
 rcases Nat.lt_or_ge b w.heap.size with hlt|hge
 ·exact hlt
 rw[Array.getElem?_eq_none hge]at h;cases h
theorem OR.lt{P:Program}{w:World}{St M:Nat->Prop}{σ:Sig}{o:AObj}{loc:Loc}(h:OR P w St M σ o loc):∀b,loc.blk=some b->b<w.heap.size:=by
 intro b hb;cases h<;>simp at hb<;>subst hb<;>exact Z0e ‹_›
theorem OR.mono{P:Program}{w w':World}{St M M':Nat->Prop}{σ σ':Sig}{o:AObj}{loc:Loc}(h:OR P w St M σ o loc)(hs:Same M w w')(hm:∀b,b<w.heap.size->M' b->M b)
  (hSt:∀b,St b->b<w.heap.size->w'.heap[b]? = w.heap[b]?) (hσ:∀l∈refsO o,∀loc,σ' l=some loc->σ l=some loc) (hb:∀b,loc.blk=some b->w'.heap[b]? = w.heap[b]?):OR P w' St M' σ' o loc:=by
 cases h with
 |pbox cs b vs t hb' hl hh h1=>exact .pbox cs b vs t ((hb b rfl).trans hb') hl (fun i p e=>(hh i p e).mono hs hm) h1
 |box cs b vs t hb' hl hh h1=>exact .box cs b vs t ((hb b rfl).trans hb') hl (fun i p e=>(hh i p e).mono hs hm hSt (fun l hl=>hσ l (by simp only[refsO];exact Z07 e l hl))) h1
 |row0 size f a=>exact .row0 size f a
 |row size n f b cap vs t hb' hn hmax hsz hs' hh h1=>exact .row size n f b cap vs t ((hb b rfl).trans hb') hn hmax hsz hs' (fun i hi j p e=>(hh i hi j p e).mono hs hm) h1
 |map kk look r es clock em ev hr hk hf hh hn=>exact .map kk look r es clock em ev ((hb r rfl).trans hr) hk hf (fun k p h1 h2=>(hh k p h1 h2).mono hs hm) hn
 |siter s pos r hr=>exact .siter s pos r ((hb r rfl).trans hr)
 |miter kk look seen r m es clock sb hr hp hm' hM hs' hl=>
  have hlt:=Z0e hm';exact .miter kk look seen r m es clock sb ((hb r rfl).trans hr) (hp.mono hs hm) ((hs.2 m hlt hM).trans hm') (fun x=>hM (hm _ hlt x)) hs' hl
def Sep(σ:Sig):Prop:=∀l l' loc loc' b,σ l=some loc->σ l'=some loc'->loc.blk=some b->loc'.blk=some b->l=l'
variable [Globals]
def Glob(w:World)(M:Nat->Prop):Prop:=∀g cs,Globals.get g=some cs->PR w M (.cell cs) (.pointer (some ⟨g,0,none⟩))
theorem Glob.mono{w w':World}{M M':Nat->Prop}(h:Glob w M)(hs:Same M w w')(hm:∀b,b<w.heap.size->M' b->M b):Glob w' M':=fun g cs e=>(h g cs e).mono hs hm
structure Inv (St M0:Nat->Prop) (σ:Sig) (w:World):Prop where
 sep:Sep σ
 lt:∀b,owned σ b->b<w.heap.size
 m0:∀b,M0 b->b<w.heap.size∧¬owned σ b
 st:∀b,St b->b<w.heap.size∧¬owned σ b
 gl:Glob w (Mof M0 σ)
abbrev Upd:=List (Nat×AObj)
def getO:List (Nat×AObj)->Nat->Option AObj
 | [],_=>none
 |(t',v)::l,t=>match Nat.beq t' t with
  |true=>some v
  |false=>getO l t
def At(P:Program)(w:World)(St M0:Nat->Prop)(σ:Sig)(l:Nat):AObj->Prop
 | .gone=>σ l=none
 |o=>∃loc,σ l=some loc∧OR P w St (Mof M0 σ) σ o loc
structure Post (P:Program) (St M0:Nat->Prop) (σ:Sig) (w:World) (u:Upd) (v:AV) (σ':Sig) (v':Value) (w':World):Prop where
 val:AR P w' St (Mof M0 σ') σ' v v'
 obj:∀l o,getO u l=some o->At P w' St M0 σ' l o
 old:∀l,getO u l=none->σ' l=σ l
 stay:∀l loc loc',σ l=some loc->σ' l=some loc'->loc'=loc
 sep:Sep σ'
 blk:∀b,owned σ' b->owned σ b∨w.heap.size<=b
 ext:FExt (fun b=>∃l loc,getO u l≠none∧σ l=some loc∧loc.blk=some b) w w'
def OpRuns(P:Program)(o:Oper)(ρ:Operand->Value)(w:World)(R:Value->World->Prop):Prop:=
 match(execOp ρ o).run P w with
 | .ok (.value v) w'=>R v w'
 | .ok .skip w'=>R undef w'
 | .ok (.enter f args) w'=>Calls P f args w' (fun e w''=>∃v,e = .returned v∧R v w'')
 |_=>False
theorem OpRuns.wp{P:Program}{o:Oper}{a:Act}{w:World}{R:Value->World->Prop}{next:Act->World->Prop}{Q:Exit->Act->World->Prop}
  (h:OpRuns P o a.eval w R) (hn:∀v w',R v w'->next (a.put o.dst v) w'):o.wp P a w next Q:=by
 unfold Oper.wp OpRuns at *;generalize (execOp a.eval o).run P w=r at *;cases r with
 |ok n w'=>
  cases n<;>simp only[Oper.upon]at h ⊢
  case value v=>exact hn _ _ h
  case skip=>exact hn _ _ h
  case enter f args=>exact h.mono fun e w'' ⟨v,he,hr⟩=>by subst he;exact hn _ _ hr
 |halt x w'=>exact h.elim
def StepAt(P:Program)(o:Oper)(ev:Operand->AV)(ob:Nat->Option AObj)(u:Upd)(v:AV):Prop:=
 ∀(St M0:Nat->Prop) (σ:Sig) (w:World) (ρ:Operand->Value),Inv St M0 σ w->
  (∀x∈o.op.operands,AR P w St (Mof M0 σ) σ (ev x) (ρ x))->
  (∀x∈o.op.operands,∀l∈refs (ev x),∀obj,ob l=some obj->At P w St M0 σ l obj)->
  (∀l,getO u l≠none->(∃x∈o.op.operands,l∈refs (ev x))∨(σ l=none∧∀x∈o.op.operands,l∉refs (ev x)))->
  OpRuns P o ρ w (fun v' w'=>∃σ',Post P St M0 σ w u v σ' v' w')
def liveO:Option AObj->Bool
 |some .gone=>false
 |some _=>true
 |none=>false
structure Step (P:Program) (o:Oper) (ev:Operand->AV) (ob:Nat->Option AObj) (u:Upd) (v:AV):Prop where
 runs:StepAt P o ev ob u v
 rv:∀l∈refs v,(∃x∈o.op.operands,l∈refs (ev x))∨getO u l≠none
 ro:∀i obj,getO u i=some obj->∀l∈refsO obj,(∃x∈o.op.operands,l∈refs (ev x))∨getO u l≠none
 lv:∀l obj,getO u l=some obj->(∃x∈o.op.operands,l∈refs (ev x))->liveO (ob l)=true∨obj = .gone
def near(o:Oper)(ev:Operand->AV)(ob:Nat->Option AObj)(k:Nat):Prop:=
 (∃x∈o.op.operands,k∈refs (ev x))∨(∃x∈o.op.operands,∃l∈refs (ev x),∃obj,ob l=some obj∧k∈refsO obj)∨
  ∃x∈o.op.operands,∃m∈refs (ev x),∃obj',ob m=some obj'∧∃l∈refsO obj',∃obj,ob l=some obj∧k∈refsO obj
structure StepN (P:Program) (o:Oper) (ev:Operand->AV) (ob:Nat->Option AObj) (u:Upd) (v:AV):Prop where
 runs:∀(St M0:Nat->Prop) (σ:Sig) (w:World) (ρ:Operand->Value),Inv St M0 σ w->
  (∀x∈o.op.operands,AR P w St (Mof M0 σ) σ (ev x) (ρ x))->
  (∀k,near o ev ob k->∀obj,ob k=some obj->At P w St M0 σ k obj)->(∀k,near o ev ob k->ob k≠none)->
  (∀l,getO u l≠none->ob l=none->σ l=none)->
  OpRuns P o ρ w (fun v' w'=>∃σ',Post P St M0 σ w u v σ' v' w')
 rv:∀l∈refs v,near o ev ob l∨getO u l≠none
 ro:∀i obj,getO u i=some obj->∀l∈refsO obj,near o ev ob l∨getO u l≠none
 lv:∀l obj,getO u l=some obj->(near o ev ob l∨ob l=none)∧(ob l=none∨liveO (ob l)=true∨obj = .gone)
theorem Step.toN{P:Program}{o:Oper}{ev:Operand->AV}{ob:Nat->Option AObj}{u:Upd}{v:AV}(h:Step P o ev ob u v)(hF:∀l,getO u l≠none->(∃x∈o.op.operands,l∈refs (ev x))∨ob l=none):StepN P o ev ob u v:=by
 refine⟨fun St M0 σ w ρ hi ha ho hn hf=>h.runs St M0 σ w ρ hi ha (fun x hx l hl obj e=>ho l (.inl ⟨x,hx,hl⟩) obj e) (fun l hl=>?_),fun l hl=>(h.rv l hl).imp .inl id,fun i obj e l hl=>(h.ro i obj e l hl).imp .inl id,fun l obj e=>?_⟩
 ·rcases hF l hl with h1|h1
  ·exact .inl h1
  exact .inr ⟨hf l hl h1,fun x hx hx'=>hn l (.inl ⟨x,hx,hx'⟩) h1⟩
 rcases hF l (by rw[e];simp)with h1|h1
 ·exact⟨.inl (.inl h1),.inr (h.lv l obj e h1)⟩
 exact⟨.inr h1,.inl h1⟩
def AC(P:Program)(f:FuncId)(args:List AV)(os:Upd)(res:AV)(os':Upd):Prop:=
 (∀(vals:Array Value) (w:World),(callFunc f vals).run P w = .ok (.enter f vals) w)∧
 ∀(St M0:Nat->Prop) (σ:Sig) (w:World) (vals:Array Value),Inv St M0 σ w->
  (∀l,getO os l=none->σ l=none)->(∀l o,getO os l=some o->At P w St M0 σ l o)->
  vals.size=args.length->(∀i x,args[i]? = some x->AR P w St (Mof M0 σ) σ x (vals.getD i undef))->
  Calls P f vals w (fun e w'=>∃v σ',e = .returned v∧Post P St M0 σ w os' res σ' v w')
theorem Post.still{P:Program}{St M0:Nat->Prop}{σ:Sig}{w:World}{v:AV}{v':Value}(hs:Sep σ)(h:AR P w St (Mof M0 σ) σ v v'):Post P St M0 σ w [] v σ v' w:=
 ⟨h,fun _ _ e=>by simp[getO]at e,fun _ _=>rfl,fun _ _ _ e e'=>qN (e'.symm.trans e),hs,fun _ h=>.inl h,FExt.refl _ _⟩
theorem StepAt.pure{P:Program}{o:Oper}{ev:Operand->AV}{ob:Nat->Option AObj}{v:AV}
  (h:∀(St M0:Nat->Prop) (σ:Sig) (w:World) (ρ:Operand->Value),Inv St M0 σ w->
   (∀x∈o.op.operands,AR P w St (Mof M0 σ) σ (ev x) (ρ x))->
   (∀x∈o.op.operands,∀l∈refs (ev x),∀obj,ob l=some obj->At P w St M0 σ l obj)->
   ∃v',(execOp ρ o).run P w = .ok (.value v') w∧AR P w St (Mof M0 σ) σ v v'):StepAt P o ev ob [] v:=by
 intro St M0 σ w ρ hi ha ho _;obtain⟨v',hr,hv⟩:=h St M0 σ w ρ hi ha ho;unfold OpRuns;rw[hr];exact⟨σ,Post.still hi.sep hv⟩
theorem Z04{i:Nat}{o:AObj}{l:Nat}:getO [(i,o)] l=if i=l then some o else none:=by
 simp only[getO]
 by_cases h:i=l
 ·subst h;simp
 rw[show Nat.beq i l=false from by rw[<-Bool.not_eq_true];simpa[Nat.beq_eq]using h];simp[h]
def upd1(σ:Sig)(id:Nat)(loc:Loc):Sig:=fun l=>if l=id then some loc else σ l
theorem Z2o(M:Nat->Prop)(w:World)(o:Obj):Same M w (w.alloc o):=
 ⟨by show w.heap.size<=(w.heap.push o).size;simp,fun b hb _=>by show(w.heap.push o)[b]? = _;rw[Array.getElem?_push,qJ (by omega)]⟩
theorem Z0g(w:World)(o:Obj):(w.alloc o).heap[w.heap.size]? = some o:=by show(w.heap.push o)[w.heap.size]? = _;simp
theorem Z12(w:World)(o:Obj)(b:Nat)(h:b<w.heap.size):(w.alloc o).heap[b]? = w.heap[b]?:=by show(w.heap.push o)[b]? = _;rw[Array.getElem?_push,qJ (by omega)]
theorem Z16{σ:Sig}{id:Nat}{loc:Loc}{b:Nat}(h:owned (upd1 σ id loc) b):owned σ b∨loc.blk=some b:=by
 obtain⟨l,lc,e,hb⟩:=h;unfold upd1 at e
 split at e
 ·cases e;exact .inr hb
 exact .inl ⟨l,lc,e,hb⟩
theorem Z5n{M0:Nat->Prop}{σ:Sig}{id:Nat}{loc:Loc}{n:Nat}(h:∀b,loc.blk=some b->n<=b):∀b,b<n->Mof M0 (upd1 σ id loc) b->Mof M0 σ b:=by
 intro b hb hm;rcases hm with hm|hm
 ·exact .inl hm
 rcases Z16 hm with hm|hm
 ·exact .inr hm
 exact absurd (h b hm) (by omega)
theorem Post.new{P:Program}{St M0:Nat->Prop}{σ:Sig}{w:World}{id:Nat}{v:AV}{v':Value}{ob:Obj}{o:AObj}{loc:Loc}(hi:Inv St M0 σ w)(hf:σ id=none)(hb:∀b,loc.blk=some b->b=w.heap.size)
  (hg:o≠.gone) (ho:OR P (w.alloc ob) St (Mof M0 (upd1 σ id loc)) (upd1 σ id loc) o loc) (hv:AR P (w.alloc ob) St (Mof M0 (upd1 σ id loc)) (upd1 σ id loc) v v') :
  Post P St M0 σ w [(id,o)] v (upd1 σ id loc) v' (w.alloc ob):=by
 refine⟨hv,fun l x e=>?_,fun l e=>?_,fun l lc lc' e e'=>?_,?_,fun b h=>?_,⟨rfl,rfl,rfl,(Z2o (fun _=>False) w ob).1,fun b hlt _=>Z12 w ob b hlt,qL _⟩⟩
 ·rw[Z04]at e
  split at e
  ·rename_i h;cases e;subst h;have:At P (w.alloc ob) St M0 (upd1 σ id loc) id o = ∃lc,upd1 σ id loc id=some lc∧OR P (w.alloc ob) St (Mof M0 (upd1 σ id loc)) (upd1 σ id loc) o lc:=by
    cases o<;>first|rfl|exact absurd rfl hg
   rw[this];exact⟨loc,by simp[upd1],ho⟩
  cases e
 ·rw[Z04]at e
  split at e
  ·cases e
  rename_i h;simp[upd1,show ¬l=id from fun x=>h x.symm]
 ·unfold upd1 at e'
  split at e'
  ·rename_i h;rw[h,hf]at e;cases e
  exact qN (e'.symm.trans e)
 ·intro l l' lc lc' b e e' eb eb';unfold upd1 at e e'
  split at e<;>split at e'
  ·rename_i h h';rw[h,h']
  ·cases e;have:=hb b eb;have:=hi.lt b ⟨l',lc',e',eb'⟩;omega
  ·cases e';have:=hb b eb';have:=hi.lt b ⟨l,lc,e,eb⟩;omega
  exact hi.sep l l' lc lc' b e e' eb eb'
 rcases Z16 h with h|h
 ·exact .inl h
 exact .inr (by rw[hb b h];exact qL _)
theorem Z0o{P:Program}{w:World}{t:TypeId}{info:TypeInfo}(h:P.info? t=some info):(typeInfo t).run P w = .ok info w:=by
 simp[typeInfo,h]
def EqOK(P:Program)(t:TypeId)(ls:List Leaf):Prop:=
 P.eqGuardType P.depth t=false∧∀(xs ys:Array Value) (w:World),xs.size=ls.length->ys.size=ls.length->(∀(i:Nat) (l:Leaf),ls[i]? = some l->l.has (xs.getD i undef)∧l.has (ys.getD i undef))->
  (Op.equalIn 10000 t (.agg xs) (.agg ys)).run P w = .ok (eqvs xs.toList ys.toList) w
structure TY where
 info:TypeInfo
 und:TypeDesc
 leaves:List Leaf
abbrev Tab:=Nat->Option TY
def Tab.ok(P:Program)(T:Tab):Prop:=∀t ty,T t=some ty->P.info? t=some ty.info∧P.underlying t=some ty.und∧(ty.leaves = []∨EqOK P t ty.leaves)
def aggD:TypeDesc->Bool
 | .struct _ | .array _ _=>true
 |_=>false
def ofConst:Value->PV
 | .agg cs=>match cs.toList.all (·.oneCell')with
  |true=>.agg (cs.toList.map .val)
  |false=>.val (.agg cs)
 |v=>.val v
theorem Z3l{w:World}{M:Nat->Prop}(v:Value):PR w M (ofConst v) v:=by
 unfold ofConst;split
 ·rename_i cs;split
  ·rename_i h;refine .agg _ _ (by simp) (fun i p e=>?_) (fun i hi=>?_)
   ·simp at e;obtain⟨u,hu,rfl⟩:=e;have:cs.getD i undef=u:=by simp[qb,hu]
    rw[this];exact .val u
   exact qz.1 h (cs.getD i undef) (by simp[Array.getD,hi])
  exact .val _
 exact .val _
def pcells:PV->List PV
 | .agg cs=>cs
 |p=>[p]
def pone:PV->Bool
 | .val v=>v.oneCell'
 | .tup _=>false
 |_=>true
theorem Z4p{w:World}{M:Nat->Prop}{p:PV}{v:Value}(h:PR w M p v)(h1:pone p=true) :
  v.cells.size=(pcells p).length∧(∀i q,(pcells p)[i]? = some q->PR w M q (v.cells.getD i undef))∧∀i,i<v.cells.size->(v.cells.getD i undef).oneCell'=true:=by
 have one:∀(p:PV) (v:Value),PR w M p v->v.oneCell'=true->v.cells.size = [p].length∧(∀(i:Nat) (q:PV),[p][i]? = some q->PR w M q (v.cells.getD i undef))∧∀i,i<v.cells.size->(v.cells.getD i undef).oneCell'=true:=by
  intro p v hp hv;have hc:v.cells=#[v]:=by cases v<;>first|rfl|cases hv
  rw[hc];refine⟨rfl,fun i q e=>?_,fun i hi=>?_⟩
  ·cases i with
   |zero=>simp at e;subst e;exact hp
   |succ i=>simp at e
  have:i=0:=by simpa using hi
  subst this;exact hv
 cases h with
 |val v=>exact one _ _ (.val v) h1
 |sb b=>exact one _ _ (.sb b) rfl
 |agg cs vs hl h hone=>exact⟨hl,h,hone⟩
 |tup cs vs hl h=>cases h1
 |ro size n f a cap u hcap hmax hz hs ha h=>exact one _ _ (.ro size n f a cap u hcap hmax hz hs ha h) rfl
 |cap0 a=>exact one _ _ (.cap0 a) rfl
 |cell cs ad u hb hM hc h=>exact one _ _ (.cell cs ad u hb hM hc h) rfl
 |map kk look r es clock em ev hr hM hk hf h hn=>exact one _ _ (.map kk look r es clock em ev hr hM hk hf h hn) rfl
 |nn p ad n c h=>exact one _ _ (.nn p ad n c h) rfl
 |ifc t p v h=>exact one _ _ (.ifc t p v h) rfl
def force(v:AV)(K:AV->Prop):Prop:=
 match v with
 | .pv p=>K (.pv p)
 | .junk=>K .junk
 | .ptr l o=>K (.ptr l o)
 | .eptr l s i j=>K (.eptr l s i j)
 | .own l=>K (.own l)
 | .part l s i n=>K (.part l s i n)
 | .ref l=>K (.ref l)
 | .fn f cs=>K (.fn f cs)
 | .clo d b gb gi=>K (.clo d b gb gi)
 | .mix cs=>K (.mix cs)
theorem Z2x{v:AV}{K:AV->Prop}:force v K=K v:=by cases v<;>rfl
def getT:List (Nat×AV)->Nat->AV
 | [],_=>.junk
 |(t',v)::l,t=>match Nat.beq t' t with
  |true=>v
  |false=>getT l t
def evO(tm:List (Nat×AV)):Operand->AV
 | .tmp t=>getT tm t
 | .const v=>.pv (ofConst v)
 | .func f=>.fn f []
 | .global g=>match Globals.get g with
  |some cs=>.pv (.cell cs)
  |none=>.junk
def nth:List PV->Nat->(PV->Prop)->Prop
 | [],_,_=>False
 |p::l,n,K=>match n with
  |0=>K p
  |n+1=>nth l n K
theorem Zad:∀ {cs:List PV} {n:Nat} {K:PV->Prop},nth cs n K->∃p,cs[n]? = some p∧K p
 | [],_,_,h=>h.elim
 |p::_,0,_,h=>⟨p,by simp,h⟩
 |_::l,n+1,_,h=>by simpa using Zad (cs:=l) h
def asB:AV->Option Bool
 | .pv (.val (.bool b))=>some b
 | .pv (.sb b)=>some b
 |_=>none
theorem Z38{P:Program}{w:World}{St M:Nat->Prop}{σ:Sig}{x:AV}{b:Bool}{v:Value}(h:asB x=some b)(hv:AR P w St M σ x v):v = .bool b:=by
 unfold asB at h
 split at h
 ·cases h;cases hv with|pv p v h=>cases h;rfl
 ·cases h;cases hv with|pv p v h=>cases h;rfl
 cases h
def sub(cs:List PV)(off n:Nat):List PV:=
 match off with
 |0=>match Nat.beq cs.length n with
  |true=>cs
  |false=>cs.take n
 |o=>(cs.drop o).take n
theorem sub_eq{cs:List PV}{off n:Nat}:sub cs off n=(cs.drop off).take n:=by
 unfold sub;split
 ·split
  ·rename_i h;have:=qg h;simp[<-this]
  simp
 rfl
def loadP(ty:TY)(cs:List PV)(off:Nat)(K:PV->Prop):Prop:=
 match aggD ty.und with
 |true=>match Nat.ble (off+ty.info.size) cs.length with
  |true=>K (.agg (sub cs off ty.info.size))
  |false=>False
 |false=>nth cs off K
def Cells(w:World)(M:Nat->Prop)(a:Addr)(cs:List PV):Prop:=
 ∃u:Nat->Value,(∀j,j<cs.length->w.cell? (a.add j)=some (u j)∧(u j).oneCell'=true)∧∀j p,cs[j]? = some p->PR w M p (u j)
theorem Cells.drop{w:World}{M:Nat->Prop}{a:Addr}{cs:List PV}(h:Cells w M a cs)(n:Nat):Cells w M (a.add n) (cs.drop n):=by
 obtain⟨u,h1,h2⟩:=h;refine⟨fun j=>u (n+j),fun j hj=>?_,fun j p e=>?_⟩
 ·rw[Z57];exact h1 (n+j) (by simp at hj;omega)
 exact h2 (n+j) p (by simpa using e)
theorem Cells.pbox{w:World}{M:Nat->Prop}{b:Nat}{cs:List PV}{vs:Array Value}{t:TypeId}(hb:w.heap[b]? = some (.cells vs t (0,0)))(hl:vs.size=cs.length)
  (h:∀i p,cs[i]? = some p->PR w M p (vs.getD i undef)) (h1:∀i,i<vs.size->(vs.getD i undef).oneCell'=true):Cells w M ⟨b,0,none⟩ cs:=by
 refine⟨fun j=>vs.getD j undef,fun j hj=>⟨?_,h1 j (by omega)⟩,h⟩;have:(⟨b,0,none⟩:Addr).add j=⟨b,j,none⟩:=by unfold Addr.add;split<;>simp_all
 rw[this];simp[World.cell?,hb,Array.getD,hl,hj]
theorem Z2b(b o:Nat):(⟨b,0,none⟩:Addr).add o=⟨b,o,none⟩:=by unfold Addr.add;split<;>simp_all
def LoadsP(ty:TY)(cs:List PV)(off:Nat)(p:PV):Prop:=
 (aggD ty.und=true∧off+ty.info.size<=cs.length∧p = .agg ((cs.drop off).take ty.info.size))∨(aggD ty.und=false∧cs[off]? = some p)
theorem Z5l{ty:TY}{cs:List PV}{off:Nat}{K:PV->Prop}(h:loadP ty cs off K):∃p,K p∧LoadsP ty cs off p:=by
 unfold loadP at h;cases hd:aggD ty.und with
 |true=>
  rw[hd]at h;simp only at h
  split at h
  ·rename_i e;rw[sub_eq]at h;exact⟨_,h,.inl ⟨hd,qi e,rfl⟩⟩
  exact h.elim
 |false=>rw[hd]at h;obtain⟨p,hp,hK⟩:=Zad h;exact⟨p,hK,.inr ⟨hd,hp⟩⟩
theorem Z7o{P:Program}{w:World}{M:Nat->Prop}{T:Tab}(hT:T.ok P){t:TypeId}{ty:TY}(ht:T t=some ty){a:Addr}{cs:List PV}{off:Nat}{p:PV}
  (hc:Cells w M a cs) (h:LoadsP ty cs off p):∃v,(loadVar t (a.add off)).run P w = .ok v w∧PR w M p v:=by
 obtain⟨hi,hu,_⟩:=hT t ty ht;obtain⟨u,h1,h2⟩:=hc.drop off;rcases h with⟨hd,hle,rfl⟩|⟨hd,hp⟩
 ·have hload:=run_loadCells (P:=P) w (a.add off) ty.info.size u (fun j hj=>(h1 j (by simp;omega)).1);have hagg:(isAgg t).run P w = .ok true w:=by
   unfold aggD at hd
   split at hd
   ·rename_i e;simp[isAgg,run_underlying (e▸hu)]
   ·rename_i e;simp[isAgg,run_underlying (e▸hu)]
   cases hd
  have hsz:(sizeOf t).run P w = .ok ty.info.size w:=by simp[sizeOf,Z0o hi]
  refine⟨.agg ((List.range ty.info.size).map u).toArray,?_,?_⟩
  ·simp[loadVar,hagg,hsz,hload]
  refine .agg _ _ (by simp;omega) (fun i p e=>?_) (fun i hi'=>?_)
  ·have hi2:i<ty.info.size:=by
    have:=qf.1 e;obtain⟨hh,_⟩:=this;simp at hh;omega
   have:(((List.range ty.info.size).map u).toArray.getD i undef)=u i:=by simp[Array.getD,hi2]
   rw[this];refine h2 i p ?_;rw[qm]at e;simpa[hi2]using e
  have hi2:i<ty.info.size:=by simpa using hi'
  have:(((List.range ty.info.size).map u).toArray.getD i undef)=u i:=by simp[Array.getD,hi2]
  rw[this];exact(h1 i (by simp;omega)).2
 have hlt:off<cs.length:=(qf.1 hp).1;have h10:=h1 0 (by simp;omega);have hagg:(isAgg t).run P w = .ok false w:=by
  unfold aggD at hd
  split at hd
  ·cases hd
  ·cases hd
  rename_i h3 h4;simp only[isAgg,Sem.run_bind,run_underlying hu,Result.andThen_ok];rfl
 refine⟨u 0,?_,h2 0 p (by simpa using hp)⟩;have hz:=h10.1;rw[add_zero]at hz;simp[loadVar,hagg,hz]
def ikEq:IntKind->IntKind->Bool
 | .i8,.i8 | .i16,.i16 | .i32,.i32 | .i64,.i64 | .u8,.u8 | .u16,.u16 | .u32,.u32 | .u64,.u64=>true
 |_,_=>false
theorem Z3f{a b:IntKind}(h:ikEq a b=true):a=b:=by cases a<;>cases b<;>first|rfl|cases h
def inR(k:IntKind)(n:Int):Prop:=k.wrap n=n
def abits(op:BinOp)(k:IntKind)(x y:Int):Int:=
 match op with
 | .and=>k.wrap ((BitVec.ofInt k.bits x &&& BitVec.ofInt k.bits y).toNat:Int)
 | .or=>k.wrap ((BitVec.ofInt k.bits x ||| BitVec.ofInt k.bits y).toNat:Int)
 |_=>k.wrap ((BitVec.ofInt k.bits x ^^^ BitVec.ofInt k.bits y).toNat:Int)
def aint(k:IntKind)(a b:Int)(op:BinOp)(K:AV->Upd->Prop):Prop:=
 match op with
 | .add=>(inR k (a+b)∧K (.pv (.val (.int k (a+b)))) [])∨K (.pv (.val (.int k (k.wrap (a+b))))) []
 | .sub=>(inR k (a-b)∧K (.pv (.val (.int k (a-b)))) [])∨K (.pv (.val (.int k (k.wrap (a-b))))) []
 | .mul=>(inR k (a*b)∧K (.pv (.val (.int k (a*b)))) [])∨K (.pv (.val (.int k (k.wrap (a*b))))) []
 | .quo=>b≠0∧((inR k (a.tdiv b)∧K (.pv (.val (.int k (a.tdiv b)))) [])∨K (.pv (.val (.int k (k.wrap (a.tdiv b))))) [])
 | .rem=>b≠0∧K (.pv (.val (.int k (a.tmod b)))) []
 | .eql=>K (.pv (.sb (decide (a=b)))) []
 | .neq=>K (.pv (.sb (!decide (a=b)))) []
 | .lss=>K (.pv (.sb (decide (a<b)))) []
 | .leq=>K (.pv (.sb (decide (a<=b)))) []
 | .gtr=>K (.pv (.sb (decide (b<a)))) []
 | .geq=>K (.pv (.sb (decide (b<=a)))) []
 | .and=>K (.pv (.val (.int k (abits .and k a b)))) []
 | .or=>K (.pv (.val (.int k (abits .or k a b)))) []
 | .xor=>K (.pv (.val (.int k (abits .xor k a b)))) []
 | .shr=>0<=b∧K (.pv (.val (.int k (a.fdiv (2 ^ min b.toNat k.bits))))) []
 |_=>False
def astr(a b:ByteArray)(op:BinOp)(K:AV->Upd->Prop):Prop:=
 match op with
 | .add=>((a.size+b.size:Nat):Int)<=IntKind.i64.max∧K (.pv (.val (.string (a++b)))) []
 | .eql=>K (.pv (.sb (decide (a=b)))) []
 | .neq=>K (.pv (.sb (!decide (a=b)))) []
 | .lss=>K (.pv (.sb (Op.bytesLess a.toList b.toList))) []
 | .leq=>K (.pv (.sb (Op.bytesLess a.toList b.toList||decide (a=b)))) []
 | .gtr=>K (.pv (.sb (!(Op.bytesLess a.toList b.toList||decide (a=b))))) []
 | .geq=>K (.pv (.sb (!Op.bytesLess a.toList b.toList))) []
 |_=>False
theorem arg_pv{P:Program}{w:World}{St M:Nat->Prop}{σ:Sig}{p:PV}{v:Value}(h:AR P w St M σ (.pv p) v):PR w M p v:=by cases h;assumption
theorem Z0l{P:Program}{w:World}{St M:Nat->Prop}{σ:Sig}{l:Nat}{v:Value}(h:AR P w St M σ (.own l) v){loc:Loc}(hl:σ l=some loc):v=loc.ref:=by cases h with|own _ _ h=>exact h _ hl
theorem Z1w{P:Program}{w:World}{St M:Nat->Prop}{σ:Sig}{l:Nat}{v:Value}(h:AR P w St M σ (.ref l) v){loc:Loc}(hl:σ l=some loc):v=loc.ref:=by cases h with|ref _ _ h=>exact h _ hl
theorem Z1n{P:Program}{w:World}{St M:Nat->Prop}{σ:Sig}{l off:Nat}{v:Value}(h:AR P w St M σ (.ptr l off) v){loc:Loc}(hl:σ l=some loc):∃b,loc.blk=some b∧v = .pointer (some ⟨b,off,none⟩):=by cases h with|ptr _ _ _ h=>exact h _ hl
theorem Z8z{P:Program}{w:World}{St M:Nat->Prop}{σ:Sig}{l size i j:Nat}{v:Value}(h:AR P w St M σ (.eptr l size i j) v){loc:Loc}(hl:σ l=some loc):∃b,loc.blk=some b∧v = .pointer (some ⟨b,i*size+j,none⟩):=by cases h with|eptr _ _ _ _ _ h=>exact h _ hl
theorem pr_val{w:World}{M:Nat->Prop}{u v:Value}(h:PR w M (.val u) v):v=u:=by cases h;rfl
theorem pr_sb{w:World}{M:Nat->Prop}{b:Bool}{v:Value}(h:PR w M (.sb b) v):v = .bool b:=by cases h;rfl
theorem pr_agg{w:World}{M:Nat->Prop}{cs:List PV}{v:Value}(h:PR w M (.agg cs) v):∃vs,v = .agg vs∧vs.size=cs.length∧(∀(i:Nat) (p:PV),cs[i]? = some p->PR w M p (vs.getD i undef))∧∀i,i<vs.size->(vs.getD i undef).oneCell'=true:=by
 cases h with|agg cs vs hl h h1=>exact⟨vs,rfl,hl,h,h1⟩
theorem pr_tup{w:World}{M:Nat->Prop}{cs:List PV}{v:Value}(h:PR w M (.tup cs) v):∃vs,v = .tuple vs∧vs.size=cs.length∧(∀(i:Nat) (p:PV),cs[i]? = some p->PR w M p (vs.getD i undef)):=by
 cases h with|tup cs vs hl h=>exact⟨vs,rfl,hl,h⟩
theorem pr_ro{w:World}{M:Nat->Prop}{size n:Nat}{f:Nat->List PV}{v:Value}(h:PR w M (.ro size n f) v):∃(a:Option Addr) (cap:Nat) (u:Nat->Nat->Value),v = .slice a n cap∧n<=cap∧cap<=maxLen∧(∀i,i<n->(f i).length=size)∧
  (0<n->∃ad,a=some ad∧ad.block<w.heap.size∧¬M ad.block∧∀i,i<n->∀j,j<size->w.cell? (ad.add (i*size+j))=some (u i j)∧(u i j).oneCell'=true)∧
  ∀i,i<n->∀(j:Nat) (p:PV),(f i)[j]? = some p->PR w M p (u i j):=by
 cases h with|ro size n f a cap u h1 h2 hz h3 h4 h5=>exact⟨a,cap,u,rfl,h1,h2,h3,h4,h5⟩
theorem Z66(a b:ByteArray):(a.toList == b.toList)=decide (a=b):=by
 rw[qt,Q5,decide_eq_true_iff];refine⟨fun h=>?_,fun h=>by rw[h]⟩;rw[ByteArray.toList_eq,ByteArray.toList_eq]at h;obtain⟨⟨x⟩⟩:=a;obtain⟨⟨y⟩⟩:=b;simp only at h;rw[h]
def leafEqs:List Leaf->List PV->List PV->(Bool->Prop)->Prop
 | [],[],[],K=>K true
 | .int k::ls,.val (.int k1 a)::xs,.val (.int k2 b)::ys,K=>match ikEq k k1,ikEq k k2 with
  |true,true=>leafEqs ls xs ys fun r=>K (decide (a=b)&&r)
  |_,_=>False
 | .str::ls,.val (.string a)::xs,.val (.string b)::ys,K=>leafEqs ls xs ys fun r=>K (decide (a=b)&&r)
 | .bool::ls,x::xs,y::ys,K=>match asB (.pv x),asB (.pv y)with
  |some a,some b=>leafEqs ls xs ys fun r=>K ((a == b)&&r)
  |_,_=>False
 |_,_,_,_=>False
def LeafRes(ls:List Leaf)(xs ys:List PV)(r:Bool):Prop:=
 xs.length=ls.length∧ys.length=ls.length∧∀(w:World) (M:Nat->Prop) (vs us:List Value),vs.length=ls.length->us.length=ls.length->
  (∀(i:Nat) (p:PV),xs[i]? = some p->PR w M p (vs.getD i undef))->(∀(i:Nat) (p:PV),ys[i]? = some p->PR w M p (us.getD i undef))->
  (∀(i:Nat) (l:Leaf),ls[i]? = some l->l.has (vs.getD i undef)∧l.has (us.getD i undef))∧eqvs vs us=r
theorem asB_pv{p:PV}{b:Bool}(h:asB (.pv p)=some b){w:World}{M:Nat->Prop}{v:Value}(hp:PR w M p v):v = .bool b:=by
 unfold asB at h
 split at h
 ·rename_i e;cases e;cases h;cases hp;rfl
 ·rename_i e;cases e;cases h;cases hp;rfl
 cases h
theorem LeafRes.cons{l:Leaf}{ls:List Leaf}{x y:PV}{xs ys:List PV}{r c:Bool}(h:LeafRes ls xs ys r)
  (hx:∀(w:World) (M:Nat->Prop) (v u:Value),PR w M x v->PR w M y u->l.has v∧l.has u∧Leaf.eqv v u=c):LeafRes (l::ls) (x::xs) (y::ys) (c&&r):=by
 obtain⟨h1,h2,h3⟩:=h;refine⟨by simp[h1],by simp[h2],fun w M vs us hv hu hp hq=>?_⟩
 match vs,us,hv,hu with
 |v::vs,u::us,hv,hu=>
  obtain⟨a,b,e⟩:=hx w M v u (by simpa using hp 0 x (by simp)) (by simpa using hq 0 y (by simp));obtain⟨g1,g2⟩:=h3 w M vs us (by simpa using hv) (by simpa using hu) (fun i p e=>by simpa using hp (i+1) p (by simpa using e)) (fun i p e=>by simpa using hq (i+1) p (by simpa using e));refine⟨fun i l' e'=>?_,by simp[eqvs,e,g2]⟩;cases i with
  |zero=>simp at e';subst e';exact⟨by simpa using a,by simpa using b⟩
  |succ i=>simpa using g1 i l' (by simpa using e')
theorem Zft{ls:List Leaf}:∀ {xs ys:List PV} {K:Bool->Prop},leafEqs ls xs ys K->∃r,K r∧LeafRes ls xs ys r:=by
 induction ls with
 |nil=>
  intro xs ys K h;unfold leafEqs at h
  split at h
  ·refine⟨true,h,rfl,rfl,fun w M vs us hv hu _ _=>⟨fun i l e=>by simp at e,?_⟩⟩;have:vs = []:=by simpa using hv
   subst this;simp[eqvs]
  ·exact absurd ‹([]:List Leaf)=_::_› (by simp)
  ·exact absurd ‹([]:List Leaf)=_::_› (by simp)
  ·exact absurd ‹([]:List Leaf)=_::_› (by simp)
  exact h.elim
 |cons l0 ls ih=>
  intro xs ys K h;unfold leafEqs at h
  split at h
  ·exact absurd ‹(_::_:List Leaf) = []› (by simp)
  ·injection ‹(_::_:List Leaf)=_::_› with e0 e1
   subst e0;subst e1
   split at h
   ·rename_i e1 e2;obtain⟨r,hK,hr⟩:=ih h;have e1:=Z3f e1;have e2:=Z3f e2;refine⟨_,hK,hr.cons fun w M v u hv hu=>?_⟩;have:=pr_val hv;have:=pr_val hu
    subst_vars
    refine⟨⟨_,rfl⟩,⟨_,rfl⟩,?_⟩;simp only[Leaf.eqv];rw[qt];simp
   exact h.elim
  ·injection ‹(_::_:List Leaf)=_::_› with e0 e1
   subst e0;subst e1;obtain⟨r,hK,hr⟩:=ih h;refine⟨_,hK,hr.cons fun w M v u hv hu=>?_⟩;have:=pr_val hv;have:=pr_val hu
   subst_vars
   refine⟨⟨_,rfl⟩,⟨_,rfl⟩,?_⟩;simp only[Leaf.eqv];rw[beq_toListBytes,Z66]
  ·injection ‹(_::_:List Leaf)=_::_› with e0 e1
   subst e0;subst e1
   split at h
   ·rename_i e1 e2;obtain⟨r,hK,hr⟩:=ih h;refine⟨_,hK,hr.cons fun w M v u hv hu=>?_⟩;have:=asB_pv e1 hv;have:=asB_pv e2 hu
    subst_vars
    exact⟨⟨_,rfl⟩,⟨_,rfl⟩,rfl⟩
   exact h.elim
  exact h.elim
def fieldOf(T:Tab)(s f:Nat)(K:Nat->Prop):Prop:=
 match T s with
 |some ty=>match ty.und with
  | .struct fs=>match fs.toList[f]? with
   |some fd=>match T fd.type with
    |some fty=>match fty.info.size with
     |0=>False
     |_=>K fd.offset
    |none=>False
   |none=>False
  |_=>False
 |none=>False
section steps
variable {P:Program} {T:Tab} {o:Oper} {ev:Operand->AV} {ob:Nat->Option AObj} {K:AV->Upd->Prop}
theorem Step.of_pure{v:AV}(hr:∀l∈refs v,∃x∈o.op.operands,l∈refs (ev x))
  (h:∀(St M0:Nat->Prop) (σ:Sig) (w:World) (ρ:Operand->Value),Inv St M0 σ w->
   (∀x∈o.op.operands,AR P w St (Mof M0 σ) σ (ev x) (ρ x))->
   (∀x∈o.op.operands,∀l∈refs (ev x),∀obj,ob l=some obj->At P w St M0 σ l obj)->
   ∃v',(execOp ρ o).run P w = .ok (.value v') w∧AR P w St (Mof M0 σ) σ v v'):Step P o ev ob [] v:=
 ⟨StepAt.pure h,fun l hl=>.inl (hr l hl),fun i x e=>by simp[getO]at e,fun l x e=>by simp[getO]at e⟩
theorem Z7u{x:Operand}(ho:o.op = .move x∨o.op = .assign x):Step P o ev ob [] (ev x):=by
 have hx:x∈o.op.operands:=by rcases ho with e|e<;>simp[e,Op.operands]
 refine .of_pure (fun l hl=>⟨x,hx,hl⟩) fun St M0 σ w ρ hi ha _=>⟨ρ x,?_,ha x hx⟩
 rcases ho with e|e<;>simp[execOp,e]
theorem Zif{c a b:Operand}(ho:o.op = .pick c a b){t:Bool}(hc:asB (ev c)=some t):Step P o ev ob [] (if t then ev a else ev b):=by
 have hc':c∈o.op.operands:=by simp[ho,Op.operands]
 have ha':a∈o.op.operands:=by simp[ho,Op.operands]
 have hb':b∈o.op.operands:=by simp[ho,Op.operands]
 refine .of_pure (fun l hl=>by cases t<;>first|exact⟨b,hb',hl⟩|exact⟨a,ha',hl⟩) fun St M0 σ w ρ hi ha _=>⟨if t then ρ a else ρ b,?_,?_⟩
 ·have:=Z38 hc (ha c hc');simp[execOp,ho,this,asBool]
 cases t
 ·exact ha b hb'
 exact ha a ha'
theorem Zwd{c a b:Operand}(ho:o.op = .pick c a b){t x y:Bool}(hc:asB (ev c)=some t)(hx:asB (ev a)=some x)(hy:asB (ev b)=some y):Step P o ev ob [] (.pv (.sb (cond t x y))):=by
 have hc':c∈o.op.operands:=by simp[ho,Op.operands]
 have ha':a∈o.op.operands:=by simp[ho,Op.operands]
 have hb':b∈o.op.operands:=by simp[ho,Op.operands]
 refine .of_pure (fun l hl=>by simp[refs]at hl) fun St M0 σ w ρ hi ha _=>⟨.bool (cond t x y),?_,.pv _ _ (.sb _)⟩
 have h1:=Z38 hc (ha c hc');have h2:=Z38 hx (ha a ha');have h3:=Z38 hy (ha b hb');cases t<;>simp[execOp,ho,h1,h2,h3,asBool]
theorem Z44{St M0:Nat->Prop}{σ:Sig}{w:World}{l:Nat}{cs:List PV}(h:At P w St M0 σ l (.pbox cs)):∃b vs t,σ l=some ⟨.pointer (some ⟨b,0,none⟩),some b⟩∧w.heap[b]? = some (.cells vs t (0,0))∧vs.size=cs.length∧
  (∀i p,cs[i]? = some p->PR w (Mof M0 σ) p (vs.getD i undef))∧∀i,i<vs.size->(vs.getD i undef).oneCell'=true:=by
 obtain⟨loc,hl,ho⟩:=h;cases ho with
 |pbox cs b vs t hb hs hp h1=>exact⟨b,vs,t,hl,hb,hs,hp,h1⟩
def zok(z:Value):Bool:=z.cells.toList.all (·.oneCell')
theorem Zur{e:TypeId}{d:Nat}{ty:TY}{z:Value}(hT:T.ok P)(ho:o.op = .alloc e)(ht:T e=some ty)(hz:ty.info.zero=some z)(hk:zok z=true) :
  Step P o ev ob [(d,.pbox (z.cells.toList.map .val))] (.ptr d 0):=by
 refine⟨?_,fun l hl=>.inr ?_,fun i obj e l hl=>?_,fun l obj e ⟨x,hx,_⟩=>by simp[ho,Op.operands]at hx⟩
 ·intro St M0 σ w ρ hi ha _ hf;obtain⟨hin,hu,_⟩:=hT _ _ ht;have hfr:σ d=none:=by
   rcases hf d (by simp[getO])with⟨x,hx,_⟩|⟨h,_⟩
   ·simp[ho,Op.operands]at hx
   exact h
  have hr:(execOp ρ o).run P w = .ok (.value (.pointer (some ⟨w.heap.size,0,none⟩))) (w.alloc (.cells z.cells e)):=by
   simp[execOp,ho,Instr.alloc,zeroValue,Z0o hin,hz,newVar,newRow,World.alloc_eq]
  unfold OpRuns;rw[hr];refine⟨upd1 σ d ⟨.pointer (some ⟨w.heap.size,0,none⟩),some w.heap.size⟩,Post.new hi hfr (loc:=⟨.pointer (some ⟨w.heap.size,0,none⟩),some w.heap.size⟩) (fun b hb=>by cases hb;rfl) (by simp) ?_ ?_⟩
  ·refine .pbox _ _ z.cells e (Z0g w _) (by simp) (fun i p hp=>?_) (fun i hi'=>?_)
   ·simp at hp;obtain⟨v,hv,rfl⟩:=hp;have:z.cells.getD i undef=v:=by simp[qb,hv]
    rw[this];exact .val v
   have:=qz.1 hk (z.cells.getD i undef) (by simp[Array.getD,hi']);exact this
  refine .ptr _ _ _ fun loc h=>⟨w.heap.size,?_⟩
  simp[upd1]at h;subst h;exact⟨rfl,rfl⟩
 ·simp[refs]at hl;subst hl;simp[getO]
 rw[Z04]at e
 split at e
 ·cases e;simp[refsO]at hl
 cases e
theorem Zuv{e:TypeId}{x:Operand}{d:Nat}{p:PV}(ho:o.op = .box e x)(hx:ev x = .pv p)(h1:pone p=true):Step P o ev ob [(d,.pbox (pcells p))] (.ptr d 0):=by
 refine⟨?_,fun l hl=>.inr ?_,fun i obj e l hl=>?_,fun l obj e ⟨y,hy,hl⟩=>by
  have:y=x:=by simpa[ho,Op.operands]using hy
  subst this;rw[hx]at hl;simp[refs]at hl⟩
 ·intro St M0 σ w ρ hi ha _ hf;have hxm:x∈o.op.operands:=by simp[ho,Op.operands]
  have hfr:σ d=none:=by
   rcases hf d (by simp[getO])with⟨y,hy,hl⟩|⟨h,_⟩
   ·have:y=x:=by simpa[ho,Op.operands]using hy
    subst this;rw[hx]at hl;simp[refs]at hl
   ·exact h
  have hp:=ha x hxm;rw[hx]at hp;cases hp with
  |pv p v hp=>
   obtain⟨hs,hq,hone⟩:=Z4p hp h1;have hr:(execOp ρ o).run P w = .ok (.value (.pointer (some ⟨w.heap.size,0,none⟩))) (w.alloc (.cells (ρ x).cells e)):=by
    simp[execOp,ho,Instr.box,newVar,newRow,World.alloc_eq]
   unfold OpRuns;rw[hr];refine⟨upd1 σ d ⟨.pointer (some ⟨w.heap.size,0,none⟩),some w.heap.size⟩,Post.new hi hfr (loc:=⟨.pointer (some ⟨w.heap.size,0,none⟩),some w.heap.size⟩) (fun b hb=>by cases hb;rfl) (by simp) ?_ ?_⟩
   ·exact .pbox _ _ (ρ x).cells e (Z0g w _) hs (fun i q hq'=>(hq i q hq').mono (Z2o _ w _) (Z5n (fun b hb=>by cases hb;exact qL _))) hone
   ·refine .ptr _ _ _ fun loc h=>⟨w.heap.size,?_⟩
    simp[upd1]at h;subst h;exact⟨rfl,rfl⟩
 ·simp[refs]at hl;subst hl;simp[getO]
 ·rw[Z04]at e
  split at e
  ·cases e;simp[refsO]at hl
  ·cases e
theorem Zvz{t:TypeId}{x:Operand}{l off:Nat}{cs:List PV}{ty:TY}{p:PV}(hT:T.ok P)(ho:o.op = .load t x)(ht:T t=some ty)(hx:ev x = .ptr l off)(hob:ob l=some (.pbox cs))(h:LoadsP ty cs off p) :
  Step P o ev ob [] (.pv p):=by
 have hxm:x∈o.op.operands:=by simp[ho,Op.operands]
 refine .of_pure (fun l hl=>by simp[refs]at hl) fun St M0 σ w ρ hi ha hobj=>?_
 obtain⟨b,vs,t',hl,hb,hs,hq,h1⟩:=Z44 (hobj x hxm l (by simp[hx,refs]) _ hob);have hp:=ha x hxm;rw[hx]at hp;cases hp with
 |ptr l off v hv=>
  obtain⟨b',hb',hv'⟩:=hv _ hl;cases hb';obtain⟨v,hr,hpv⟩:=Z7o hT ht (Cells.pbox hb hs hq h1) h;rw[Z2b]at hr;exact⟨v,by simp[execOp,ho,hv',Instr.loadAt,Instr.sureAddr,hr],.pv _ _ hpv⟩
theorem Zgv{w:World}{M:Nat->Prop}{cs:List PV}{v:Value}(h:PR w M (.cell cs) v):∃ad,v = .pointer (some ad)∧ad.block<w.heap.size∧¬M ad.block∧Cells w M ad cs:=by
 cases h with
 |cell cs ad u hb hM hc h=>exact⟨ad,rfl,hb,hM,u,hc,h⟩
theorem Zgw{w:World}{M:Nat->Prop}{cs:List PV}{ad:Addr}(hb:ad.block<w.heap.size)(hM:¬M ad.block)(h:Cells w M ad cs):PR w M (.cell cs) (.pointer (some ad)):=by
 obtain⟨u,h1,h2⟩:=h;exact .cell cs ad u hb hM h1 h2
theorem Zvx{t:TypeId}{x:Operand}{cs:List PV}{ty:TY}{p:PV}(hT:T.ok P)(ho:o.op = .load t x)(ht:T t=some ty)(hx:ev x = .pv (.cell cs))(h:LoadsP ty cs 0 p) :
  Step P o ev ob [] (.pv p):=by
 have hxm:x∈o.op.operands:=by simp[ho,Op.operands]
 refine .of_pure (fun l hl=>by simp[refs]at hl) fun St M0 σ w ρ hi ha hobj=>?_
 have hp:=ha x hxm;rw[hx]at hp;cases hp with
 |pv _ v hp=>
  obtain⟨ad,hv,hb,hM,hc⟩:=Zgv hp;obtain⟨v,hr,hpv⟩:=Z7o hT ht hc h;rw[add_zero]at hr;exact⟨v,by simp[execOp,ho,hv,Instr.loadAt,Instr.sureAddr,hr],.pv _ _ hpv⟩
def FieldAt(T:Tab)(s f fo:Nat):Prop:=
 ∃ty fs fd fty,T s=some ty∧ty.und = .struct fs∧fs.toList[f]? = some fd∧T fd.type=some fty∧fty.info.size≠0∧fd.offset=fo
theorem Zpl{s f:Nat}{L:Nat->Prop}(h:fieldOf T s f L):∃fo,L fo∧FieldAt T s f fo:=by
 unfold fieldOf at h
 split at h
 ·rename_i ty hty
  split at h
  ·rename_i fs hfs
   split at h
   ·rename_i fd hfd
    split at h
    ·rename_i fty hfty
     split at h
     ·exact h.elim
     rename_i hne;exact⟨_,h,ty,fs,fd,fty,hty,hfs,hfd,hfty,hne,rfl⟩
    exact h.elim
   exact h.elim
  exact h.elim
 exact h.elim
theorem Zay{w:World}(hT:T.ok P){s f fo:Nat}(hf:FieldAt T s f fo)(a:Addr):(Instr.fieldAt s (.pointer (some a)) f).run P w = .ok (.pointer (some (a.add fo))) w:=by
 obtain⟨ty,fs,fd,fty,h1,h2,h3,h4,h5,rfl⟩:=hf;obtain⟨_,hu,_⟩:=hT _ _ h1;obtain⟨hi,_,_⟩:=hT _ _ h4;rw[h2]at hu;have hfd:fs[f]? = some fd:=by simpa using h3
 simp[Instr.fieldAt,run_underlying hu,hfd,Instr.sureAddr,fieldPlace,sizeOf,Z0o hi,h5]
theorem Z0q{St M0:Nat->Prop}{σ:Sig}{w:World}{l:Nat}{obj:AObj}(h:At P w St M0 σ l obj)(hg:obj≠.gone):∃loc,σ l=some loc∧OR P w St (Mof M0 σ) σ obj loc:=by
 cases obj<;>first|exact h|exact absurd rfl hg
theorem Z3k{ob:Option AObj}(h:liveO ob=true):∃obj,ob=some obj∧obj≠.gone:=by
 cases ob with
 |none=>cases h
 |some o=>exact⟨o,rfl,by rintro rfl;cases h⟩
theorem Zvb{s f fo:Nat}{x:Operand}{l off:Nat}(hT:T.ok P)(ho:o.op = .fieldAddr s x f)(hx:ev x = .ptr l off)(hf:FieldAt T s f fo)(hl:liveO (ob l)=true):Step P o ev ob [] (.ptr l (off+fo)):=by
 have hxm:x∈o.op.operands:=by simp[ho,Op.operands]
 have hr:l∈refs (ev x):=by simp[hx,refs]
 refine .of_pure (fun k hk=>⟨x,hxm,by simpa[hx,refs]using hk⟩) fun St M0 σ w ρ hi ha hobj=>?_
 obtain⟨obj,e,hg⟩:=Z3k hl;obtain⟨loc,hloc,_⟩:=Z0q (hobj x hxm l hr obj e) hg;have hp:=ha x hxm;rw[hx]at hp;cases hp with
 |ptr l off v hv=>
  obtain⟨b,hb,hv'⟩:=hv _ hloc;have:=Zay (w:=w) hT hf ⟨b,off,none⟩;have ha2:(⟨b,off,none⟩:Addr).add fo=⟨b,off+fo,none⟩:=by unfold Addr.add;split<;>simp_all
  rw[ha2]at this;refine⟨.pointer (some ⟨b,off+fo,none⟩),by simp[execOp,ho,hv',this],.ptr _ _ _ fun loc' h'=>⟨b,?_,rfl⟩⟩;rw[hloc]at h';cases h';exact hb
theorem Zva{s f fo:Nat}{x:Operand}{cs:List PV}(hT:T.ok P)(ho:o.op = .fieldAddr s x f)(hx:ev x = .pv (.cell cs))(hf:FieldAt T s f fo):Step P o ev ob [] (.pv (.cell (cs.drop fo))):=by
 have hxm:x∈o.op.operands:=by simp[ho,Op.operands]
 refine .of_pure (fun k hk=>by simp[refs]at hk) fun St M0 σ w ρ hi ha hobj=>?_
 have hp:=ha x hxm;rw[hx]at hp;cases hp with
 |pv _ v hp=>
  obtain⟨ad,hv,hb,hM,hc⟩:=Zgv hp;exact⟨_,by simp[execOp,ho,hv,Zay hT hf],.pv _ _ (Zgw (by rw[Z1g];exact hb) (by rw[Z1g];exact hM) (hc.drop fo))⟩
def SliceOf(T:Tab)(t size:Nat):Prop:=∃ty e ety,T t=some ty∧ty.und = .slice e∧T e=some ety∧ety.info.size=size
def sliceOf(T:Tab)(t size:Nat):Bool:=
 match T t with
 |some ty=>match ty.und with
  | .slice e=>match T e with
   |some ety=>Nat.beq ety.info.size size
   |none=>false
  |_=>false
 |none=>false
theorem Z27{t size:Nat}(h:sliceOf T t size=true):SliceOf T t size:=by
 unfold sliceOf at h
 split at h
 ·rename_i ty hty
  split at h
  ·rename_i e he
   split at h
   ·rename_i ety hety;exact⟨ty,e,ety,hty,he,hety,qg h⟩
   cases h
  cases h
 cases h
theorem Zaz{w:World}(hT:T.ok P){t size:Nat}(hs:SliceOf T t size){a:Addr}{n cap:Nat}{k:IntKind}{ix:Int}(h0:0<=ix)(h1:ix<n) :
  (Instr.indexAt t (.slice (some a) n cap) (.int k ix)).run P w = .ok (.pointer (some (a.add (ix.toNat*size)))) w:=by
 obtain⟨ty,e,ety,h2,h3,h4,rfl⟩:=hs;obtain⟨_,hu,_⟩:=hT _ _ h2;obtain⟨hi,_,_⟩:=hT _ _ h4;rw[h3]at hu;simp[Instr.indexAt,asIntOf,run_underlying hu,h0,h1,sizeOf,Z0o hi]
theorem Zvk{t:TypeId}{x i:Operand}{size n:Nat}{f:Nat->List PV}{k:IntKind}{ix:Int}(hT:T.ok P)(ho:o.op = .indexAddr t x i)(hx:ev x = .pv (.ro size n f))(hi:ev i = .pv (.val (.int k ix)))
  (hs:SliceOf T t size) (h0:0<=ix) (h1:ix<n):Step P o ev ob [] (.pv (.cell (f ix.toNat))):=by
 have hxm:x∈o.op.operands:=by simp[ho,Op.operands]
 have him:i∈o.op.operands:=by simp[ho,Op.operands]
 refine .of_pure (fun k hk=>by simp[refs]at hk) fun St M0 σ w ρ hin ha hobj=>?_
 have hp:=arg_pv (hx▸ha x hxm);have hq:=pr_val (arg_pv (hi▸ha i him));obtain⟨a,cap,u,hv,hcap,hmax,hsz,had,hpr⟩:=pr_ro hp;obtain⟨ad,rfl,hb,hM,hc⟩:=had (by omega);refine⟨.pointer (some (ad.add (ix.toNat*size))),by simp[execOp,ho,hv,hq,Zaz hT hs h0 h1],.pv _ _ (Zgw (by rw[Z1g];exact hb) (by rw[Z1g];exact hM) ⟨u ix.toNat,fun j hj=>?_,hpr ix.toNat (by omega)⟩)⟩;rw[Z57];exact hc ix.toNat (by omega) j (by rw[<-hsz ix.toNat (by omega)];exact hj)
theorem at_row{St M0:Nat->Prop}{σ:Sig}{w:World}{l size n:Nat}{f:Nat->List PV}(h:At P w St M0 σ l (.row size n f))(hn:0<n) :
  ∃b cap vs t,σ l=some ⟨.slice (some ⟨b,0,none⟩) n cap,some b⟩∧w.heap[b]? = some (.cells vs t (0,0))∧n<=cap∧cap<=maxLen∧vs.size=cap*size∧(∀i,i<n->(f i).length=size)∧
  (∀i,i<n->∀j p,(f i)[j]? = some p->PR w (Mof M0 σ) p (vs.getD (i*size+j) undef))∧∀i,i<vs.size->(vs.getD i undef).oneCell'=true:=by
 obtain⟨loc,hl,ho⟩:=h;cases ho with
 |row0 size f a=>omega
 |row size n f b cap vs t hb hn hmax hsz hs hp h1=>exact⟨b,cap,vs,t,hl,hb,hn,hmax,hsz,hs,hp,h1⟩
theorem Zvi{t:TypeId}{x i:Operand}{l size n:Nat}{f:Nat->List PV}{k:IntKind}{ix:Int}(hT:T.ok P)(ho:o.op = .indexAddr t x i)(hx:ev x = .own l)(hob:ob l=some (.row size n f))(hi:ev i = .pv (.val (.int k ix)))
  (hs:SliceOf T t size) (h0:0<=ix) (h1:ix<n):Step P o ev ob [] (.eptr l size ix.toNat 0):=by
 have hxm:x∈o.op.operands:=by simp[ho,Op.operands]
 have him:i∈o.op.operands:=by simp[ho,Op.operands]
 refine .of_pure (fun k hk=>⟨x,hxm,by simpa[hx,refs]using hk⟩) fun St M0 σ w ρ hin ha hobj=>?_
 have hq:=pr_val (arg_pv (hi▸ha i him));obtain⟨b,cap,vs,t',hl,hb,hcap,hmax,hsz,hf,hp,hone⟩:=at_row (hobj x hxm l (by simp[hx,refs]) _ hob) (by omega);have hv:=Z0l (hx▸ha x hxm) hl;have hadd:(⟨b,0,none⟩:Addr).add (ix.toNat*size)=⟨b,ix.toNat*size,none⟩:=Z2b _ _;refine⟨.pointer (some ⟨b,ix.toNat*size,none⟩),by simp[execOp,ho,hv,hq,Zaz hT hs h0 h1,hadd],.eptr _ _ _ _ _ fun loc hloc=>⟨b,?_,by simp⟩⟩;rw[hl]at hloc;cases hloc;rfl
theorem Cells.row{w:World}{M:Nat->Prop}{b i size n cap:Nat}{f:Nat->List PV}{vs:Array Value}{t:TypeId}(hb:w.heap[b]? = some (.cells vs t (0,0)))(hi:i<n)(hcap:n<=cap)(hsz:vs.size=cap*size)
  (hf:(f i).length=size) (hp:∀j p,(f i)[j]? = some p->PR w M p (vs.getD (i*size+j) undef)) (h1:∀i,i<vs.size->(vs.getD i undef).oneCell'=true):Cells w M ⟨b,i*size,none⟩ (f i):=by
 refine⟨fun j=>vs.getD (i*size+j) undef,fun j hj=>?_,hp⟩;have hlt:i*size+j<vs.size:=by
  rw[hsz];have:(i+1)*size<=cap*size:=qu _ (by omega);rw[Nat.add_mul]at this;omega
 have hadd:(⟨b,i*size,none⟩:Addr).add j=⟨b,i*size+j,none⟩:=by unfold Addr.add;split<;>simp_all
 rw[hadd];exact⟨by simp[World.cell?,hb,Array.getD,hlt],h1 _ hlt⟩
theorem Zvy{t:TypeId}{x:Operand}{l size n i j:Nat}{f:Nat->List PV}{ty:TY}{p:PV}(hT:T.ok P)(ho:o.op = .load t x)(ht:T t=some ty)(hx:ev x = .eptr l size i j)(hob:ob l=some (.row size n f))(hi:i<n)(h:LoadsP ty (f i) j p) :
  Step P o ev ob [] (.pv p):=by
 have hxm:x∈o.op.operands:=by simp[ho,Op.operands]
 refine .of_pure (fun l hl=>by simp[refs]at hl) fun St M0 σ w ρ hin ha hobj=>?_
 obtain⟨b,cap,vs,t',hl,hb,hcap,hmax,hsz,hf,hp,hone⟩:=at_row (hobj x hxm l (by simp[hx,refs]) _ hob) (by omega);obtain⟨b',hb',hv'⟩:=Z8z (hx▸ha x hxm) hl;cases hb';obtain⟨v,hr,hpv⟩:=Z7o hT ht (Cells.row hb hi hcap hsz (hf i hi) (hp i hi) hone) h;have hadd:(⟨b,i*size,none⟩:Addr).add j=⟨b,i*size+j,none⟩:=by unfold Addr.add;split<;>simp_all
 rw[hadd]at hr;exact⟨v,by simp[execOp,ho,hv',Instr.loadAt,Instr.sureAddr,hr],.pv _ _ hpv⟩
theorem Zvc{s f fo:Nat}{x:Operand}{l size i j:Nat}(hT:T.ok P)(ho:o.op = .fieldAddr s x f)(hx:ev x = .eptr l size i j)(hf:FieldAt T s f fo)(hl:liveO (ob l)=true):Step P o ev ob [] (.eptr l size i (j+fo)):=by
 have hxm:x∈o.op.operands:=by simp[ho,Op.operands]
 have hr:l∈refs (ev x):=by simp[hx,refs]
 refine .of_pure (fun k hk=>⟨x,hxm,by simpa[hx,refs]using hk⟩) fun St M0 σ w ρ hi ha hobj=>?_
 obtain⟨obj,e,hg⟩:=Z3k hl;obtain⟨loc,hloc,_⟩:=Z0q (hobj x hxm l hr obj e) hg;obtain⟨b,hb,hv'⟩:=Z8z (hx▸ha x hxm) hloc;have:=Zay (w:=w) hT hf ⟨b,i*size+j,none⟩;have ha2:(⟨b,i*size+j,none⟩:Addr).add fo=⟨b,i*size+(j+fo),none⟩:=by unfold Addr.add;split<;>simp_all[Nat.add_assoc]
 rw[ha2]at this;refine⟨.pointer (some ⟨b,i*size+(j+fo),none⟩),by simp[execOp,ho,hv',this],.eptr _ _ _ _ _ fun loc' h'=>⟨b,?_,rfl⟩⟩;rw[hloc]at h';cases h';exact hb
def splice{α:Type}(cs:List α)(off:Nat)(qs:List α):List α:=
 match off,cs,qs with
 |_,cs,[]=>cs
 |_,[],_=>[]
 |0,_::cs,q::qs=>q::splice cs 0 qs
 |n+1,c::cs,q::qs=>c::splice cs n (q::qs)
theorem Z29{α:Type}:∀(off:Nat) (cs qs:List α),(splice cs off qs).length=cs.length
 |_,_,[]=>by unfold splice;rfl
 |_,[],_::_=>by unfold splice;rfl
 |0,_::cs,_::qs=>by simp[splice,Z29 0 cs qs]
 |n+1,_::cs,q::qs=>by simp[splice,Z29 n cs (q::qs)]
theorem Z33{α:Type}:∀(off:Nat) (cs qs:List α) (i:Nat),off+qs.length<=cs.length->(splice cs off qs)[i]? = if off<=i∧i<off+qs.length then qs[i-off]? else cs[i]?
 |off,cs,[],i,_=>by
  have:splice cs off []=cs:=by unfold splice;rfl
  rw[this,qJ (by simp)]
 |_,[],q::qs,_,h=>by simp at h
 |0,c::cs,q::qs,0,_=>by simp[splice]
 |0,c::cs,q::qs,i+1,h=>by
  simp only[splice,List.getElem?_cons_succ];rw[Z33 0 cs qs i (by simp at h;omega)];simp
 |n+1,c::cs,q::qs,0,_=>by simp[splice]
 |n+1,c::cs,q::qs,i+1,h=>by
  simp only[splice,List.getElem?_cons_succ];rw[Z33 n cs (q::qs) i (by simp at h ⊢;omega)];simp only[qy,Nat.add_le_add_iff_right];have e1:(n<=i∧i<n+(qs.length+1))↔(n<=i∧i+1<n+1+(qs.length+1)):=by omega
  have e2:i+1-(n+1)=i-n:=by omega
  simp only[e1,e2]
theorem Post.upd{St M0:Nat->Prop}{σ:Sig}{w w':World}{l b:Nat}{loc:Loc}{o':AObj}{v:AV}{v':Value}(hi:Inv St M0 σ w)(hl:σ l=some loc)(hb:loc.blk=some b)(hx:FExt (fun k=>k=b) w w')(hg:o'≠.gone)
  (ho:OR P w' St (Mof M0 σ) σ o' loc) (hv:AR P w' St (Mof M0 σ) σ v v'):Post P St M0 σ w [(l,o')] v σ v' w':=by
 refine⟨hv,fun k x e=>?_,fun _ _=>rfl,fun _ _ _ e e'=>qN (e'.symm.trans e),hi.sep,fun _ h=>.inl h,hx.mono (fun i _ h=>⟨l,loc,by simp[getO],hl,h▸hb⟩)⟩;rw[Z04]at e
 split at e
 ·rename_i h;cases e;subst h;have:At P w' St M0 σ l o' = ∃lc,σ l=some lc∧OR P w' St (Mof M0 σ) σ o' lc:=by
   cases o'<;>first|rfl|exact absurd rfl hg
  rw[this];exact⟨loc,hl,ho⟩
 cases e
theorem Z5e(w:World)(b:Nat)(cs:Array Value):FExt (fun k=>k=b) w (w.setRow b cs):=
 ⟨rfl,rfl,rfl,by simp,fun k _ h=>setRow_other w b k cs h,qL _⟩
theorem Z31{M0:Nat->Prop}{σ:Sig}{w w':World}{l b:Nat}{loc:Loc}(hl:σ l=some loc)(hb:loc.blk=some b)(hx:FExt (fun k=>k=b) w w'):Same (Mof M0 σ) w w':=
 ⟨hx.size,fun k hk hm=>hx.block k hk (fun e=>hm (.inr ⟨l,loc,hl,e▸hb⟩))⟩
theorem Zup{St M0:Nat->Prop}{σ:Sig}{w w':World}{l b:Nat}{loc:Loc}(hi:Inv St M0 σ w)(hl:σ l=some loc)(hb:loc.blk=some b)(hx:FExt (fun k=>k=b) w w'):∀k,St k->k<w.heap.size->w'.heap[k]? = w.heap[k]?:=
 fun k hs hk=>hx.block k hk (fun e=>(hi.st k hs).2 ⟨l,loc,hl,e▸hb⟩)
def cut(vs:Array Value)(off:Nat)(xs:List Value):Array Value:=(vs.toList.take off++xs++vs.toList.drop (off+xs.length)).toArray
theorem Z14{vs:Array Value}{off:Nat}{xs:List Value}(h:off+xs.length<=vs.size):(cut vs off xs).size=vs.size:=by
 simp[cut];omega
theorem Z1c{vs:Array Value}{off:Nat}{xs:List Value}(h:off+xs.length<=vs.size)(i:Nat):(cut vs off xs).getD i undef=if off<=i∧i<off+xs.length then xs.getD (i-off) undef else vs.getD i undef:=by
 have hs:=Z14 h;rw[qb,qb];unfold cut;simp only[List.getElem?_toArray,List.append_assoc];rw[qO];have hl:(List.take off vs.toList).length=off:=by simp;omega
 rw[hl]
 by_cases h1:i<off
 ·simp[h1,show ¬(off<=i)from by omega]
 rw[qJ h1,qO]
 by_cases h2:i<off+xs.length
 ·rw[qK (by omega),qK ⟨by omega,h2⟩];simp[List.getD]
 rw[qJ (by omega),qJ (by omega)];simp only[qA];have:off+xs.length+(i-off-xs.length)=i:=by omega
 rw[this];simp
theorem Zb0{w:World}{b off:Nat}{t t':TypeId}{ty:TY}{vs:Array Value}{v:Value}(hT:T.ok P)(ht:T t=some ty)(hb:w.heap[b]? = some (.cells vs t' (0,0)))(hsz:v.cells.size=ty.info.size)(hfit:off+v.cells.size<=vs.size)
  (h1:∀i,i<v.cells.size->(v.cells.getD i undef).oneCell'=true):(storeVar t ⟨b,off,none⟩ v).run P w = .ok () (w.setRow b (cut vs off v.cells.toList)):=by
 obtain⟨hi,_,_⟩:=hT _ _ ht;have:=run_storeCells_at (P:=P) b off t' v.cells.toList 0 vs w hb (by simpa using hfit) (fun x hx=>by
  obtain⟨i,hi,rfl⟩:=List.mem_iff_getElem.1 hx;have:=h1 i (by simpa using hi);simpa[Array.getD,show i<v.cells.size from by simpa using hi]using this)
 simp only[Nat.add_zero]at this;simp[storeVar,sizeOf,Z0o hi,hsz,this,cut]
theorem Zwj{t:TypeId}{x y:Operand}{l off:Nat}{cs:List PV}{ty:TY}{p:PV}(hT:T.ok P)(ho:o.op = .store t x y)(ht:T t=some ty)(hx:ev x = .ptr l off)(hob:ob l=some (.pbox cs))(hy:ev y = .pv p)(h1:pone p=true)
  (hsz:(pcells p).length=ty.info.size) (hfit:off+(pcells p).length<=cs.length):Step P o ev ob [(l,.pbox (splice cs off (pcells p)))] .junk:=by
 have hxm:x∈o.op.operands:=by simp[ho,Op.operands]
 have hym:y∈o.op.operands:=by simp[ho,Op.operands]
 refine⟨?_,fun l hl=>by simp[refs]at hl,fun i obj e l hl=>by rw[Z04]at e;split at e<;>cases e;simp[refsO]at hl,fun k obj e _=>by
  rw[Z04]at e
  split at e
  ·rename_i h;subst h;exact .inl (by rw[hob];rfl)
  ·cases e⟩
 intro St M0 σ w ρ hi ha hobj _;obtain⟨b,vs,t',hl,hb,hs,hq,hone⟩:=Z44 (hobj x hxm l (by simp[hx,refs]) _ hob);obtain⟨b',hb',hv⟩:=Z1n (hx▸ha x hxm) hl;cases hb';have hp:=arg_pv (hy▸ha y hym);obtain⟨hcs,hcp,hc1⟩:=Z4p hp h1;have hr:=Zb0 (w:=w) (off:=off) hT ht hb (by rw[hcs,hsz]) (by rw[hcs,hs];exact hfit) hc1;unfold OpRuns;rw[show(execOp ρ o).run P w = .ok .skip (w.setRow b (cut vs off (ρ y).cells.toList))from by simp[execOp,ho,hv,Instr.storeAt,Instr.sureAddr,hr]];have hx':=Z5e w b (cut vs off (ρ y).cells.toList);have hsame:=Z31 (M0:=M0) hl rfl hx';have hfit':off+(ρ y).cells.toList.length<=vs.size:=by simp[hcs,hs];exact hfit
 refine⟨σ,Post.upd hi hl rfl hx' (by simp) (.pbox _ b _ t' (setRow_heap w b vs _ t' _ hb) (by rw[Z14 hfit',hs,Z29]) (fun i q e=>?_) (fun i hi'=>?_)) (.junk _)⟩
 ·have hlt:i<vs.size:=by
   have:=(qf.1 e).1;rw[Z29]at this;omega
  rw[Z33 off cs _ i hfit]at e;rw[Z1c hfit' i];have e1:(ρ y).cells.toList.length=(pcells p).length:=by simp[hcs]
  rw[e1]
  split at e
  ·rename_i hc;rw[qK hc];have:=(hcp _ q e).mono hsame (fun _ _ h=>h);simpa[qb,List.getD]using this
  ·rename_i hc;rw[qJ hc];exact(hq i q e).mono hsame (fun _ _ h=>h)
 ·rw[Z14 hfit']at hi';rw[Z1c hfit' i]
  by_cases hc:off<=i∧i<off+(ρ y).cells.toList.length
  ·rw[qK hc];have:=hc1 (i-off) (by simp at hc;omega);simpa[qb,List.getD]using this
  ·rw[qJ hc];exact hone i hi'
theorem Zpb{w:World}(op:BinOp)(t:TypeId)(x y:Operand)(k k':IntKind)(a b:Int):(eqGuard op t x y (.int k a) (.int k' b)).run P w = .ok () w:=by
 cases op<;>simp[eqGuard]
theorem Zpc{w:World}(op:BinOp)(t:TypeId)(x y:Operand)(a b:ByteArray):(eqGuard op t x y (.string a) (.string b)).run P w = .ok () w:=by
 cases op<;>simp[eqGuard]
theorem Zdw{w:World}(op:BinOp)(t:TypeId)(x y:Operand)(a b:Bool):(eqGuard op t x y (.bool a) (.bool b)).run P w = .ok () w:=by
 cases op<;>simp[eqGuard]
def IntRes(k:IntKind)(a b:Int)(op:BinOp)(p:PV):Prop:=∀(P:Program) (w:World) (t:TypeId) (M:Nat->Prop),∃v,(binOp op t (.int k a) (.int k b)).run P w = .ok v w∧PR w M p v
theorem IntRes.mk{k:IntKind}{a b:Int}{op:BinOp}{p:PV}(v:Value)(h:∀(P:Program) (w:World) (t:TypeId),(binOp op t (.int k a) (.int k b)).run P w = .ok v w)(hp:∀(w:World) (M:Nat->Prop),PR w M p v):IntRes k a b op p:=
 fun P w t M=>⟨v,h P w t,hp w M⟩
theorem Zns{k:IntKind}{a b:Int}{op:BinOp}(h:aint k a b op K):∃p,K (.pv p) []∧IntRes k a b op p:=by
 unfold aint at h
 split at h
 ·rcases h with⟨hr,h⟩|h
  ·exact⟨_,h,.mk (.int k (k.wrap (a+b))) (fun P w t=>by simp[binOp,Op.intArith]) (fun w M=>by rw[hr];exact .val _)⟩
  ·exact⟨_,h,.mk (.int k (k.wrap (a+b))) (fun P w t=>by simp[binOp,Op.intArith]) (fun w M=>.val _)⟩
 ·rcases h with⟨hr,h⟩|h
  ·exact⟨_,h,.mk (.int k (k.wrap (a-b))) (fun P w t=>by simp[binOp,Op.intArith]) (fun w M=>by rw[hr];exact .val _)⟩
  ·exact⟨_,h,.mk (.int k (k.wrap (a-b))) (fun P w t=>by simp[binOp,Op.intArith]) (fun w M=>.val _)⟩
 ·rcases h with⟨hr,h⟩|h
  ·exact⟨_,h,.mk (.int k (k.wrap (a*b))) (fun P w t=>by simp[binOp,Op.intArith]) (fun w M=>by rw[hr];exact .val _)⟩
  ·exact⟨_,h,.mk (.int k (k.wrap (a*b))) (fun P w t=>by simp[binOp,Op.intArith]) (fun w M=>.val _)⟩
 ·obtain⟨hb,h⟩:=h;rcases h with⟨hr,h⟩|h
  ·exact⟨_,h,.mk (.int k (k.wrap (a.tdiv b))) (fun P w t=>by simp[binOp,Op.intDiv,hb]) (fun w M=>by rw[hr];exact .val _)⟩
  ·exact⟨_,h,.mk (.int k (k.wrap (a.tdiv b))) (fun P w t=>by simp[binOp,Op.intDiv,hb]) (fun w M=>.val _)⟩
 ·obtain⟨hb,h⟩:=h;exact⟨_,h,.mk (.int k (a.tmod b)) (fun P w t=>by simp[binOp,Op.intDiv,hb]) (fun w M=>.val _)⟩
 ·exact⟨_,h,.mk (.bool (decide (a=b))) (fun P w t=>by simp[binOp,Op.intCmp];by_cases h:a=b<;>simp[h]) (fun w M=>.sb _)⟩
 ·exact⟨_,h,.mk (.bool (!decide (a=b))) (fun P w t=>by simp[binOp,Op.intCmp,bne];by_cases h:a=b<;>simp[h]) (fun w M=>.sb _)⟩
 ·exact⟨_,h,.mk (.bool (decide (a<b))) (fun P w t=>by simp[binOp,Op.intCmp]) (fun w M=>.sb _)⟩
 ·exact⟨_,h,.mk (.bool (decide (a<=b))) (fun P w t=>by simp[binOp,Op.intCmp]) (fun w M=>.sb _)⟩
 ·exact⟨_,h,.mk (.bool (decide (b<a))) (fun P w t=>by simp[binOp,Op.intCmp]) (fun w M=>.sb _)⟩
 ·exact⟨_,h,.mk (.bool (decide (b<=a))) (fun P w t=>by simp[binOp,Op.intCmp]) (fun w M=>.sb _)⟩
 ·exact⟨_,h,.mk (.int k (abits .and k a b)) (fun P w t=>by simp[binOp,Op.intBits,abits]) (fun w M=>.val _)⟩
 ·exact⟨_,h,.mk (.int k (abits .or k a b)) (fun P w t=>by simp[binOp,Op.intBits,abits]) (fun w M=>.val _)⟩
 ·exact⟨_,h,.mk (.int k (abits .xor k a b)) (fun P w t=>by simp[binOp,Op.intBits,abits]) (fun w M=>.val _)⟩
 ·obtain⟨hb,h⟩:=h;exact⟨_,h,.mk (.int k (a.fdiv (2 ^ min b.toNat k.bits))) (fun P w t=>by
   simp only[binOp,Op.shift,qJ (show ¬b<0 by omega)];rfl) (fun w M=>.val _)⟩
 ·exact h.elim
theorem Zvm{op:BinOp}{t t':TypeId}{x y:Operand}{k:IntKind}{a b:Int}{p:PV}(ho:o.op = .binOp op t x y t')(hx:ev x = .pv (.val (.int k a)))(hy:ev y = .pv (.val (.int k b)))(h:IntRes k a b op p):Step P o ev ob [] (.pv p):=by
 have hxm:x∈o.op.operands:=by simp[ho,Op.operands]
 have hym:y∈o.op.operands:=by simp[ho,Op.operands]
 refine .of_pure (fun l hl=>by simp[refs]at hl) fun St M0 σ w ρ hi ha hobj=>?_
 have h1:=pr_val (arg_pv (hx▸ha x hxm));have h2:=pr_val (arg_pv (hy▸ha y hym));obtain⟨v,hr,hp⟩:=h P w t (Mof M0 σ);exact⟨v,by simp[execOp,ho,h1,h2,Zpb,hr],.pv _ _ hp⟩
def StrRes(a b:ByteArray)(op:BinOp)(p:PV):Prop:=∀(P:Program) (w:World) (t:TypeId) (M:Nat->Prop),∃v,(binOp op t (.string a) (.string b)).run P w = .ok v w∧PR w M p v
theorem Zo3{a b:ByteArray}{op:BinOp}(h:astr a b op K):∃p,K (.pv p) []∧StrRes a b op p:=by
 unfold astr at h
 split at h
 ·obtain⟨hs,h⟩:=h;exact⟨_,h,fun P w t M=>⟨.string (a++b),by
   have:¬(((a.size+b.size:Nat):Int)>IntKind.i64.max):=by omega
   simp only[binOp,Op.stringOp,qJ this];rfl,.val _⟩⟩
 ·exact⟨_,h,fun P w t M=>⟨_,by simp only[binOp,Op.stringOp,Z66];rfl,.sb _⟩⟩
 ·exact⟨_,h,fun P w t M=>⟨_,by simp only[binOp,Op.stringOp,Z66];rfl,.sb _⟩⟩
 ·exact⟨_,h,fun P w t M=>⟨_,by simp only[binOp,Op.stringOp];rfl,.sb _⟩⟩
 ·exact⟨_,h,fun P w t M=>⟨_,by simp only[binOp,Op.stringOp,Z66];rfl,.sb _⟩⟩
 ·exact⟨_,h,fun P w t M=>⟨_,by simp only[binOp,Op.stringOp,Z66];rfl,.sb _⟩⟩
 ·exact⟨_,h,fun P w t M=>⟨_,by simp only[binOp,Op.stringOp];rfl,.sb _⟩⟩
 ·exact h.elim
theorem Zwl{op:BinOp}{t t':TypeId}{x y:Operand}{a b:ByteArray}{p:PV}(ho:o.op = .binOp op t x y t')(hx:ev x = .pv (.val (.string a)))(hy:ev y = .pv (.val (.string b)))(h:StrRes a b op p):Step P o ev ob [] (.pv p):=by
 have hxm:x∈o.op.operands:=by simp[ho,Op.operands]
 have hym:y∈o.op.operands:=by simp[ho,Op.operands]
 refine .of_pure (fun l hl=>by simp[refs]at hl) fun St M0 σ w ρ hi ha hobj=>?_
 have h1:=pr_val (arg_pv (hx▸ha x hxm));have h2:=pr_val (arg_pv (hy▸ha y hym));obtain⟨v,hr,hp⟩:=h P w t (Mof M0 σ);exact⟨v,by simp[execOp,ho,h1,h2,Zpc,hr],.pv _ _ hp⟩
def isBoolT(T:Tab)(t:TypeId):Bool:=
 match T t with
 |some ty=>match ty.und with
  | .bool=>true
  |_=>false
 |none=>false
theorem Zic{neg:Bool}{t t':TypeId}{x y:Operand}{a b:Bool}(hT:T.ok P)(ho:o.op = .binOp (if neg then .neq else .eql) t x y t')(ht:isBoolT T t=true)(hx:asB (ev x)=some a)(hy:asB (ev y)=some b) :
  Step P o ev ob [] (.pv (.sb (xor neg (a == b)))):=by
 have hxm:x∈o.op.operands:=by simp[ho,Op.operands]
 have hym:y∈o.op.operands:=by simp[ho,Op.operands]
 refine .of_pure (fun l hl=>by simp[refs]at hl) fun St M0 σ w ρ hi ha hobj=>?_
 have h1:=Z38 hx (ha x hxm);have h2:=Z38 hy (ha y hym);have hu:P.underlying t=some .bool:=by
  unfold isBoolT at ht
  split at ht
  ·rename_i ty hty;obtain⟨_,hu,_⟩:=hT _ _ hty
   split at ht
   ·rename_i e;rw[e]at hu;exact hu
   cases ht
  cases ht
 refine⟨.bool (xor neg (a == b)),?_,.pv _ _ (.sb _)⟩;cases neg
 ·simp[execOp,ho,h1,h2,Zdw,binOp,run_equal_bool w t a b hu]
 simp[execOp,ho,h1,h2,Zdw,binOp,run_equal_bool w t a b hu]
theorem Zwc{t:TypeId}{x:Operand}{a:Bool}(ho:o.op = .unOp .not t x)(hx:asB (ev x)=some a):Step P o ev ob [] (.pv (.sb (!a))):=by
 have hxm:x∈o.op.operands:=by simp[ho,Op.operands]
 refine .of_pure (fun l hl=>by simp[refs]at hl) fun St M0 σ w ρ hi ha hobj=>?_
 have h1:=Z38 hx (ha x hxm);exact⟨.bool (!a),by simp[execOp,ho,h1,Op.unary],.pv _ _ (.sb _)⟩
theorem Zw8{t:TypeId}{x:Operand}{k:IntKind}{a:Int}(ho:o.op = .unOp .neg t x)(hx:ev x = .pv (.val (.int k a))):Step P o ev ob [] (.pv (.val (.int k (k.wrap (0-a))))):=by
 have hxm:x∈o.op.operands:=by simp[ho,Op.operands]
 refine .of_pure (fun l hl=>by simp[refs]at hl) fun St M0 σ w ρ hi ha hobj=>?_
 have h1:=pr_val (arg_pv (hx▸ha x hxm));exact⟨_,by simp only[execOp,ho,h1,Op.unary,Op.intArith];rfl,.pv _ _ (.val _)⟩
theorem Zv8{x:Operand}{i:Nat}{cs:List PV}{p:PV}(ho:o.op = .extract x i)(hx:ev x = .pv (.tup cs))(hp:cs[i]? = some p):Step P o ev ob [] (.pv p):=by
 have hxm:x∈o.op.operands:=by simp[ho,Op.operands]
 refine .of_pure (fun l hl=>by simp[refs]at hl) fun St M0 σ w ρ hi ha hobj=>?_
 obtain⟨vs,hv,hs,hq⟩:=pr_tup (arg_pv (hx▸ha x hxm));have hlt:i<vs.size:=by rw[hs];exact(qf.1 hp).1
 refine⟨vs.getD i undef,?_,.pv _ _ (hq i p hp)⟩;simp[execOp,ho,hv,Instr.extract,Array.getD,hlt]
def leavesOf(T:Tab)(t:TypeId):List Leaf:=
 match T t with
 |some ty=>ty.leaves
 |none=>[]
theorem Zie{neg:Bool}{t t':TypeId}{x y:Operand}{xs ys:List PV}{r:Bool}(hT:T.ok P)(ho:o.op = .binOp (if neg then .neq else .eql) t x y t')(hne:(leavesOf T t).isEmpty=false)(hx:ev x = .pv (.agg xs))(hy:ev y = .pv (.agg ys))(hr:LeafRes (leavesOf T t) xs ys r) :
  Step P o ev ob [] (.pv (.sb (xor neg r))):=by
 have hxm:x∈o.op.operands:=by simp[ho,Op.operands]
 have hym:y∈o.op.operands:=by simp[ho,Op.operands]
 refine .of_pure (fun l hl=>by simp[refs]at hl) fun St M0 σ w ρ hi ha hobj=>?_
 obtain⟨vs,hv,hvs,hvp,_⟩:=pr_agg (arg_pv (hx▸ha x hxm));obtain⟨us,hu,hus,hup,_⟩:=pr_agg (arg_pv (hy▸ha y hym));have hE:EqOK P t (leavesOf T t):=by
  unfold leavesOf at hne ⊢;split
  ·rename_i ty hty;rw[hty]at hne;rcases(hT _ _ hty).2.2 with e|e
   ·simp[e]at hne
   exact e
  rename_i hty;rw[hty]at hne;simp at hne
 obtain⟨hg,hE⟩:=hE;obtain⟨h1,h2,h3⟩:=hr;obtain⟨h4,h5⟩:=h3 w (Mof M0 σ) vs.toList us.toList (by simp[hvs,h1]) (by simp[hus,h2]) (fun i p e=>by simpa[List.getD,qb]using hvp i p e) (fun i p e=>by simpa[List.getD,qb]using hup i p e);have hrun:=hE vs us w (by simp[hvs,h1]) (by simp[hus,h2]) (fun i l e=>by simpa[List.getD,qb]using h4 i l e);rw[h5]at hrun;have hq:∀op:BinOp,(eqGuard op t x y (.agg vs) (.agg us)).run P w = .ok () w:=fun op=>run_eqGuard_agg w op t x y vs us hg
 refine⟨.bool (xor neg r),?_,.pv _ _ (.sb _)⟩;cases neg
 ·simp[execOp,ho,hv,hu,hq,run_eql_struct,hrun]
 simp[execOp,ho,hv,hu,hq,run_neq_struct,hrun]
theorem Zvt{t:TypeId}{x:Operand}{size n:Nat}{f:Nat->List PV}(hT:T.ok P)(ho:o.op = .call { callee:=.builtin .len,args:=#[x],argTypes:=#[t] })(hx:ev x = .pv (.ro size n f))(hs:SliceOf T t size):Step P o ev ob [] (.pv (.val (.int .i64 n))):=by
 have hxm:x∈o.op.operands:=by simp[ho,Op.operands,Call.operands]
 refine .of_pure (fun l hl=>by simp[refs]at hl) fun St M0 σ w ρ hi ha hobj=>?_
 obtain⟨a,cap,u,hv,_⟩:=pr_ro (arg_pv (hx▸ha x hxm));obtain⟨ty,e,ety,h2,h3,h4,_⟩:=hs;obtain⟨_,hu,_⟩:=hT _ _ h2;rw[h3]at hu;exact⟨.int .i64 n,by simp[execOp,ho,resolve,invoke,builtin,Builtin.len_,hv,run_underlying hu,goInt],.pv _ _ (.val _)⟩
theorem Zvq{t:TypeId}{x:Operand}{size:Nat}{c:Nat}(hT:T.ok P)(ho:o.op = .call { callee:=.builtin .len,args:=#[x],argTypes:=#[t] })(hx:ev x = .pv (.val (.slice none 0 c)))(hs:SliceOf T t size):Step P o ev ob [] (.pv (.val (.int .i64 0))):=by
 have hxm:x∈o.op.operands:=by simp[ho,Op.operands,Call.operands]
 refine .of_pure (fun l hl=>by simp[refs]at hl) fun St M0 σ w ρ hi ha hobj=>?_
 have hv:=pr_val (arg_pv (hx▸ha x hxm));obtain⟨ty,e,ety,h2,h3,h4,_⟩:=hs;obtain⟨_,hu,_⟩:=hT _ _ h2;rw[h3]at hu;exact⟨.int .i64 0,by simp[execOp,ho,resolve,invoke,builtin,Builtin.len_,hv,run_underlying hu,goInt],.pv _ _ (.val _)⟩
theorem Zvr{t:TypeId}{x:Operand}{l size n:Nat}{f:Nat->List PV}(hT:T.ok P)(ho:o.op = .call { callee:=.builtin .len,args:=#[x],argTypes:=#[t] })(hx:ev x = .own l)(hob:ob l=some (.row size n f))(hs:SliceOf T t size):Step P o ev ob [] (.pv (.val (.int .i64 n))):=by
 have hxm:x∈o.op.operands:=by simp[ho,Op.operands,Call.operands]
 refine .of_pure (fun l hl=>by simp[refs]at hl) fun St M0 σ w ρ hi ha hobj=>?_
 obtain⟨loc,hl,hor⟩:=hobj x hxm l (by simp[hx,refs]) _ hob;have hv:=Z0l (hx▸ha x hxm) hl;have hv2:∃a c,ρ x = .slice a n c:=by rw[hv];cases hor<;>exact⟨_,_,rfl⟩
 obtain⟨a,c,hv2⟩:=hv2;obtain⟨ty,e,ety,h2,h3,h4,_⟩:=hs;obtain⟨_,hu,_⟩:=hT _ _ h2;rw[h3]at hu;exact⟨.int .i64 n,by simp[execOp,ho,resolve,invoke,builtin,Builtin.len_,hv2,run_underlying hu,goInt],.pv _ _ (.val _)⟩
def isStrT(T:Tab)(t:TypeId):Bool:=
 match T t with
 |some ty=>match ty.und with
  | .string=>true
  |_=>false
 |none=>false
theorem Za0(hT:T.ok P){t:TypeId}(ht:isStrT T t=true):P.underlying t=some .string:=by
 unfold isStrT at ht
 split at ht
 ·rename_i ty hty;obtain⟨_,hu,_⟩:=hT _ _ hty
  split at ht
  ·rename_i e;rw[e]at hu;exact hu
  cases ht
 cases ht
theorem Zvu{t:TypeId}{x:Operand}{s:ByteArray}(hT:T.ok P)(ho:o.op = .call { callee:=.builtin .len,args:=#[x],argTypes:=#[t] })(hx:ev x = .pv (.val (.string s)))(hs:isStrT T t=true):Step P o ev ob [] (.pv (.val (.int .i64 s.size))):=by
 have hxm:x∈o.op.operands:=by simp[ho,Op.operands,Call.operands]
 refine .of_pure (fun l hl=>by simp[refs]at hl) fun St M0 σ w ρ hi ha hobj=>?_
 have hv:=pr_val (arg_pv (hx▸ha x hxm));have hu:=Za0 hT hs;exact⟨.int .i64 s.size,by simp[execOp,ho,resolve,invoke,builtin,Builtin.len_,hv,run_underlying hu,goInt],.pv _ _ (.val _)⟩
theorem Zw7{x y:Operand}{ts:Array TypeId}{k k':IntKind}{a b:Int}(ho:o.op = .call { callee:=.builtin .min,args:=#[x,y],argTypes:=ts })(hx:ev x = .pv (.val (.int k a)))(hy:ev y = .pv (.val (.int k' b))) :
  Step P o ev ob [] (.pv (.val (.int k (if b<a then b else a)))):=by
 have hxm:x∈o.op.operands:=by simp[ho,Op.operands,Call.operands]
 have hym:y∈o.op.operands:=by simp[ho,Op.operands,Call.operands]
 refine .of_pure (fun l hl=>by simp[refs]at hl) fun St M0 σ w ρ hi ha hobj=>?_
 have h1:=pr_val (arg_pv (hx▸ha x hxm));have h2:=pr_val (arg_pv (hy▸ha y hym));exact⟨_,by simp only[execOp,ho,resolve,invoke,builtin,Builtin.min_,List.map_toArray,List.map_cons,List.map_nil,h1,h2,Builtin.min2,List.foldlM_cons,List.foldlM_nil,Sem.run_bind,Sem.run_pure,Result.andThen_ok],.pv _ _ (.val _)⟩
theorem Zw6{x y:Operand}{ts:Array TypeId}{k k':IntKind}{a b:Int}(ho:o.op = .call { callee:=.builtin .max,args:=#[x,y],argTypes:=ts })(hx:ev x = .pv (.val (.int k a)))(hy:ev y = .pv (.val (.int k' b))) :
  Step P o ev ob [] (.pv (.val (.int k (if a<b then b else a)))):=by
 have hxm:x∈o.op.operands:=by simp[ho,Op.operands,Call.operands]
 have hym:y∈o.op.operands:=by simp[ho,Op.operands,Call.operands]
 refine .of_pure (fun l hl=>by simp[refs]at hl) fun St M0 σ w ρ hi ha hobj=>?_
 have h1:=pr_val (arg_pv (hx▸ha x hxm));have h2:=pr_val (arg_pv (hy▸ha y hym));exact⟨_,by simp only[execOp,ho,resolve,invoke,builtin,Builtin.max_,List.map_toArray,List.map_cons,List.map_nil,h1,h2,Builtin.max2,List.foldlM_cons,List.foldlM_nil,Sem.run_bind,Sem.run_pure,Result.andThen_ok],.pv _ _ (.val _)⟩
def intOfT(T:Tab)(t:TypeId):Option IntKind:=
 match T t with
 |some ty=>match ty.und with
  | .int k=>some k
  |_=>none
 |none=>none
theorem Zfb(hT:T.ok P){t:TypeId}{k:IntKind}(ht:intOfT T t=some k):P.underlying t=some (.int k):=by
 unfold intOfT at ht
 split at ht
 ·rename_i ty hty;obtain⟨_,hu,_⟩:=hT _ _ hty
  split at ht
  ·rename_i e;cases ht;rw[e]at hu;exact hu
  cases ht
 cases ht
theorem Zv5{s d:TypeId}{x:Operand}{k k1 k2:IntKind}{n:Int}(hT:T.ok P)(ho:o.op = .convert s d x)(hs:intOfT T s=some k1)(hd:intOfT T d=some k2)(hx:ev x = .pv (.val (.int k n))):Step P o ev ob [] (.pv (.val (.int k2 (k2.wrap n)))):=by
 have hxm:x∈o.op.operands:=by simp[ho,Op.operands]
 refine .of_pure (fun l hl=>by simp[refs]at hl) fun St M0 σ w ρ hi ha hobj=>?_
 have hv:=pr_val (arg_pv (hx▸ha x hxm));have h1:=Zfb hT hs;have h2:=Zfb hT hd;exact⟨_,by simp[execOp,ho,hv,convert,run_underlying h1,run_underlying h2,Conv.intToInt],.pv _ _ (.val _)⟩
end steps
def pvL:List AV->Option (List PV)
 | []=>some []
 | .pv p::r=>match pvL r with
  |some ps=>some (p::ps)
  |none=>none
 |_::_=>none
theorem Z3m:∀ {cs:List AV} {ps:List PV},pvL cs=some ps->ps.length=cs.length∧∀(i:Nat) (p:PV),ps[i]? = some p->cs[i]? = some (.pv p)
 | [],ps,h=>by simp only[pvL,qw]at h;subst h;exact⟨rfl,fun i p e=>by simp at e⟩
 |c::r,ps,h=>by
  unfold pvL at h
  split at h
  ·rename_i e;cases e
  ·rename_i p r' e;cases e
   split at h
   ·rename_i qs hq;cases h;obtain⟨h1,h2⟩:=Z3m hq;refine⟨by simp[h1],fun i q e=>?_⟩;cases i with
    |zero=>simp at e;subst e;rfl
    |succ i=>simpa using h2 i q (by simpa using e)
   cases h
  cases h
def borrowV(ob:Nat->Option AObj):AV->AV
 | .pv p=>.pv p
 | .clo d b gb gi=>.clo d b gb gi
 | .own l=>match ob l with
  |some (.row s n f)=>.pv (.ro s n f)
  |_=>.junk
 | .ref l=>match ob l with
  |some (.map kk look)=>.pv (.map kk look)
  |_=>.junk
 | .ptr l off=>match ob l with
  |some (.pbox cs)=>.pv (.cell (cs.drop off))
  |_=>.junk
 | .fn f caps=>.fn f (borrowL ob caps)
 | .junk=>.junk
 | .eptr _ _ _ _=>.junk
 | .part _ _ _ _=>.junk
 | .mix cs=>match pvL (borrowL ob cs)with
  |some ps=>.pv (.agg ps)
  |none=>.junk
where borrowL (ob:Nat->Option AObj):List AV->List AV
 | []=>[]
 |c::cs=>borrowV ob c::borrowL ob cs
theorem Z59{ob:Nat->Option AObj}:∀ {cs:List AV} {i:Nat} {c:AV},(borrowV.borrowL ob cs)[i]? = some c->∃c',cs[i]? = some c'∧c=borrowV ob c'
 | [],i,c,h=>by simp[borrowV.borrowL]at h
 |x::cs,0,c,h=>by simp[borrowV.borrowL]at h;exact⟨x,by simp,h.symm⟩
 |x::cs,i+1,c,h=>by
  simp[borrowV.borrowL]at h;simpa using Z59 (cs:=cs) h
theorem Z5a{ob:Nat->Option AObj}:∀ {cs:List AV},(borrowV.borrowL ob cs).length=cs.length
 | []=>rfl
 |x::cs=>by simp[borrowV.borrowL,Z5a (cs:=cs)]
def flatP:PV->Bool
 | .val _=>true
 | .sb _=>true
 | .agg cs=>flatL cs
 | .tup cs=>flatL cs
 |_=>false
where flatL:List PV->Bool
 | []=>true
 |c::cs=>flatP c&&flatL cs
theorem Z6z:∀ {cs:List PV},flatP.flatL cs=true->∀(i:Nat) (c:PV),cs[i]? = some c->flatP c=true
 |x::cs,h,0,c,e=>by simp at e;subst e;simp[flatP.flatL]at h;exact h.1
 |x::cs,h,i+1,c,e=>by simp[flatP.flatL]at h;exact Z6z h.2 i c (by simpa using e)
theorem PR.flat{w w':World}{M M':Nat->Prop}{p:PV}{v:Value}(h:PR w M p v)(hf:flatP p=true):PR w' M' p v:=by
 induction h with
 |val v=>exact .val v
 |sb b=>exact .sb b
 |agg cs vs hl _ h1 ih=>exact .agg cs vs hl (fun i p e=>ih i p e (Z6z (by simpa[flatP]using hf) i p e)) h1
 |tup cs vs hl _ ih=>exact .tup cs vs hl (fun i p e=>ih i p e (Z6z (by simpa[flatP]using hf) i p e))
 |_=>cases hf
def Mlent(M0:Nat->Prop)(σ:Sig)(L:List Nat)(b:Nat):Prop:=M0 b∨∃l loc,l∉L∧σ l=some loc∧loc.blk=some b
theorem Z45{P:Program}{w:World}{St M0:Nat->Prop}{σ:Sig}{ob:Nat->Option AObj}{L:List Nat}(hi:Inv St M0 σ w){x:AV}{v:Value}(h:AR P w St (Mof M0 σ) σ x v)
  (hL:∀l∈refs x,l∈L) (ho:∀l∈refs x,∀obj,ob l=some obj->At P w St M0 σ l obj):AR P w (fun b=>b<w.heap.size) (Mlent M0 σ L) (fun _=>none) (borrowV ob x) v:=by
 have hsub:∀b,b<w.heap.size->Mlent M0 σ L b->Mof M0 σ b:=fun b _ hm=>by
  rcases hm with hm|⟨l,loc,_,h1,h2⟩
  ·exact .inl hm
  exact .inr ⟨l,loc,h1,h2⟩
 have hnot:∀(l b:Nat) (loc:Loc),l∈L->σ l=some loc->loc.blk=some b->¬Mlent M0 σ L b:=by
  intro l b loc hl hs hb hm;rcases hm with hm|⟨l',loc',hl',hs',hb'⟩
  ·exact(hi.m0 b hm).2 ⟨l,loc,hs,hb⟩
  exact hl' (hi.sep l' l loc' loc b hs' hs hb' hb▸hl)
 induction h with
 |pv p v h=>exact .pv p v (h.mono (Same.refl _ w) hsub)
 |junk v=>exact .junk v
 |ptr l off v h=>
  unfold borrowV;split
  ·rename_i cs hob;obtain⟨b,vs,t,hl,hb,hs,hq,h1⟩:=Z44 (ho l (by simp[refs]) _ hob);obtain⟨b',hb',rfl⟩:=h _ hl;cases hb';have hc:=(Cells.pbox hb hs hq h1).drop off;rw[Z2b]at hc;obtain⟨u,hc1,hc2⟩:=hc;exact .pv _ _ (.cell _ _ u (Z0e hb) (hnot l b _ (hL l (by simp[refs])) hl rfl) hc1 (fun j p e=>(hc2 j p e).mono (Same.refl _ w) hsub))
  exact .junk _
 |eptr l size i j v h=>exact .junk _
 |part l size i n v h=>exact .junk _
 |own l v h=>
  unfold borrowV;split
  ·rename_i s n f hob;obtain⟨loc,hl,hor⟩:=ho l (by simp[refs]) _ hob;have hv:=h _ hl;subst hv;cases hor with
   |row0 size f a=>exact .pv _ _ (.ro _ _ _ _ _ (fun _ _=>undef) (qL _) (qe _) (fun _=>Eq.refl _) (fun i h=>absurd h (by omega)) (fun h=>absurd h (by omega)) (fun i h=>absurd h (by omega)))
   |row size n f b cap vs t hb hn hmax hsz hs hp h1=>
    refine .pv _ _ (.ro _ _ _ _ _ (fun i j=>vs.getD (i*s+j) undef) hn hmax (fun h=>by cases h) hs (fun hn0=>⟨⟨b,0,none⟩,rfl,Z0e hb,hnot l b _ (hL l (by simp[refs])) hl rfl,fun i hi' j hj=>?_⟩) (fun i hi' j p e=>(hp i hi' j p e).mono (Same.refl _ w) hsub));have hlt:i*s+j<vs.size:=by
     rw[hsz];have:(i+1)*s<=cap*s:=qu _ (by omega);rw[Nat.add_mul]at this;omega
    rw[Z2b];exact⟨by simp[World.cell?,hb,Array.getD,hlt],h1 _ hlt⟩
  exact .junk _
 |ref l v h=>
  unfold borrowV;split
  ·rename_i kk look hob;obtain⟨loc,hl,hor⟩:=ho l (by simp[refs]) _ hob;have hv:=h _ hl;subst hv;cases hor with
   |map _ _ r es clock em ev hr hk hf hp hn=>exact .pv _ _ (.map kk look r es clock em ev hr (hnot l r _ (hL l (by simp[refs])) hl rfl) hk hf (fun k p e e'=>(hp k p e e').mono (Same.refl _ w) hsub) hn)
  exact .junk _
 |fn f caps vs hl _ ih=>
  unfold borrowV;refine .fn f _ vs (by rw[hl,Z5a]) (fun i c e=>?_);obtain⟨c',hc',rfl⟩:=Z59 e;exact ih i c' hc' (fun l hl=>hL l (by simp only[refs];exact Z07 hc' l hl)) (fun l hl=>ho l (by simp only[refs];exact Z07 hc' l hl))
 |mix cs vs hl _ h1 ih=>
  unfold borrowV;split
  ·rename_i ps hps;obtain⟨hlen,hget⟩:=Z3m hps;refine .pv _ _ (.agg _ _ (by rw[hl,hlen,Z5a]) (fun i p e=>?_) h1);have hp:=hget i p e;obtain⟨c',hc',e2⟩:=Z59 hp;have:=ih i c' hc' (fun l hl=>hL l (by simp only[refs];exact Z07 hc' l hl)) (fun l hl=>ho l (by simp only[refs];exact Z07 hc' l hl));rw[<-e2]at this;exact arg_pv this
  exact .junk _
 |clo dom isB gb gi f caps C hC h=>exact .clo dom isB gb gi f caps C (fun b hb=>⟨(hC b hb).2,(hC b hb).2⟩) h
def goneL(L:List Nat):Upd:=L.map fun l=>(l,.gone)
theorem Z1o:∀ {L:List Nat} {l:Nat},getO (goneL L) l=if l∈L then some .gone else none
 | [],l=>by simp[goneL,getO]
 |x::L,l=>by
  have ih:=Z1o (L:=L) (l:=l);unfold goneL at ih ⊢;simp only[List.map_cons,getO]
  by_cases h:x=l
  ·subst h;simp
  rw[show Nat.beq x l=false from by rw[<-Bool.not_eq_true];simpa[Nat.beq_eq]using h];simp only[ih];simp[show ¬l=x from fun e=>h e.symm]
theorem Z0b{α:Type}{a b:Array α}{i:Nat}{d:α}(h:i<a.size):(a++b).getD i d=a.getD i d:=by
 simp only[qb];rw[Array.getElem?_append_left h]
theorem Z2g{α:Type}{a b:Array α}{i:Nat}{d:α}(h:a.size<=i):(a++b).getD i d=b.getD (i-a.size) d:=by
 simp only[qb];rw[Array.getElem?_append_right h]
section
variable {P:Program} {o:Oper} {ev:Operand->AV} {ob:Nat->Option AObj}
theorem Z3o{fo:Operand}{args:Array Operand}{ts:Array TypeId}{ρ:Operand->Value}{f:FuncId}{vs:Array Value}(ho:o.op = .call { callee:=.value fo,args:=args,argTypes:=ts })(hv:ρ fo = .func (.func f) #[] vs){w:World}
  (hf:∀(vals:Array Value) (w:World),(callFunc f vals).run P w = .ok (.enter f vals) w):(execOp ρ o).run P w = .ok (.enter f (args.map ρ++vs)) w:=by
 simp[execOp,ho,resolve,Deferred.ofValue,hv,invoke,hf]
def lentArgs(ev:Operand->AV)(ob:Nat->Option AObj)(args:List Operand)(caps:List AV):List AV:=borrowV.borrowL ob (args.map ev++caps)
def lentRefs(ev:Operand->AV)(args:List Operand)(caps:List AV):List Nat:=refs.refsL (args.map ev++caps)
theorem Zbb{fo:Operand}{args:Array Operand}{ts:Array TypeId}{f:FuncId}{caps:List AV}{res:PV}(keep:Bool)(ho:o.op = .call { callee:=.value fo,args:=args,argTypes:=ts })(hf:ev fo = .fn f caps)
  (hAC:AC P f (lentArgs ev ob args.toList caps) [] (.pv res) []) (hk:keep=true->flatP res=true∨lentRefs ev args.toList caps = []) :
  Step P o ev ob (if keep then []else goneL (lentRefs ev args.toList caps)) (.pv res):=by
 have hfm:fo∈o.op.operands:=by simp[ho,Op.operands,Call.operands]
 have ham:∀x∈args,x∈o.op.operands:=fun x hx=>by simp[ho,Op.operands,Call.operands,hx]
 have href:∀l∈lentRefs ev args.toList caps,∃x∈o.op.operands,l∈refs (ev x):=by
  intro l hl;have key:∀(xs:List AV),l∈refs.refsL xs->∃x∈xs,l∈refs x:=by
   intro xs
   induction xs with
   |nil=>intro h;simp[refs.refsL]at h
   |cons x xs ih=>
    intro h;simp only[refs.refsL,qo]at h;rcases h with h|h
    ·exact⟨x,by simp,h⟩
    ·obtain⟨y,hy,hh⟩:=ih h;exact⟨y,by simp[hy],hh⟩
  obtain⟨x,hx,hlx⟩:=key _ hl;simp only[qo,List.mem_map]at hx;rcases hx with⟨y,hy,rfl⟩|hx
  ·exact⟨y,ham y (by simpa using hy),hlx⟩
  ·obtain⟨i,hi⟩:=List.getElem?_of_mem hx;exact⟨fo,hfm,by rw[hf];simp only[refs];exact Z07 hi l hlx⟩
 refine⟨?_,fun l hl=>by simp[refs]at hl,fun i obj e l hl=>?_,fun l obj e _=>by
  cases keep with
  |true=>simp[getO]at e
  |false=>simp only[Bool.false_eq_true,if_false]at e;rw[Z1o]at e;split at e<;>cases e;exact .inr rfl⟩
 ·intro St M0 σ w ρ hi ha hobj _;obtain⟨hfn,hcall⟩:=hAC;have hfv:=ha fo hfm;rw[hf]at hfv;cases hfv':ρ fo with
  |func fn first vs=>_
  |_=>rw[hfv']at hfv;cases hfv
  rw[hfv']at hfv;cases hfv with
  |fn _ _ _ hl hcap=>
   unfold OpRuns;rw[Z3o ho hfv' hfn]
   let L:=lentRefs ev args.toList caps
   have hrel:∀(i:Nat) (x:AV),(args.toList.map ev++caps)[i]? = some x->AR P w St (Mof M0 σ) σ x ((args.map ρ++vs).getD i undef)∧(∀l∈refs x,l∈L)∧(∀l∈refs x,∀obj,ob l=some obj->At P w St M0 σ l obj):=by
    intro i x hx;have hLx:∀l∈refs x,l∈L:=fun l hl=>Z07 hx l hl
    rw[qO]at hx
    split at hx
    ·rename_i hlt;have hlt':i<args.size:=by simpa using hlt
     have hxe:x=ev args[i]:=by
      simp[hlt']at hx;exact hx.symm
     have hm:args[i]∈o.op.operands:=ham _ (by simp);refine⟨?_,hLx,fun l hl obj e=>?_⟩
     ·rw[Z0b (by simpa using hlt'),hxe];have:=ha _ hm;simpa[Array.getD,hlt']using this
     ·rw[hxe]at hl;exact hobj _ hm l hl obj e
    ·rename_i hge;refine⟨?_,hLx,fun l hl obj e=>?_⟩
     ·rw[Z2g (by simp at hge ⊢;exact hge)];have:=hcap _ x hx;simpa using this
     ·exact hobj fo hfm l (by rw[hf];simp only[refs];exact Z07 hx l hl) obj e
   have hM:∀b,Mlent M0 σ L b->b<w.heap.size:=fun b hb=>by
    rcases hb with hb|⟨l,loc,_,h1,h2⟩
    ·exact(hi.m0 b hb).1
    ·exact hi.lt b ⟨l,loc,h1,h2⟩
   have hown:∀b,¬owned (fun _=>none) b:=fun b ⟨l,loc,h,_⟩=>by cases h
   have hmof:∀b,Mof (Mlent M0 σ L) (fun _=>none) b↔Mlent M0 σ L b:=fun b=>⟨fun h=>h.elim id (fun h=>absurd h (hown b)),.inl⟩
   have hinv:Inv (fun b=>b<w.heap.size) (Mlent M0 σ L) (fun _=>none) w:=⟨fun l l' loc loc' b e=>(by cases e),fun b h=>absurd h (hown b),fun b h=>⟨hM b h,hown b⟩,fun b h=>⟨h,hown b⟩,by
    rw[show Mof (Mlent M0 σ L) (fun _=>none)=Mlent M0 σ L from funext fun b=>propext (hmof b)];exact hi.gl.mono (Same.refl _ w) (fun b _ hb=>hb.imp id fun⟨l,loc,_,h1,h2⟩=>⟨l,loc,h1,h2⟩)⟩
   refine(hcall (fun b=>b<w.heap.size) (Mlent M0 σ L) (fun _=>none) w (args.map ρ++vs) hinv (fun _ _=>rfl) (fun l o e=>by simp[getO]at e) ?_ ?_).mono ?_
   ·simp[lentArgs,Z5a,hl]
   ·intro i x hx;obtain⟨c,hc,rfl⟩:=Z59 hx;obtain⟨h1,h2,h3⟩:=hrel i c hc;have:=Z45 hi h1 h2 h3;rw[show Mof (Mlent M0 σ L) (fun _=>none)=Mlent M0 σ L from funext fun b=>propext (hmof b)];exact this
   ·rintro e w' ⟨v,σ',rfl,hpost⟩
    refine⟨v,rfl,?_⟩;have hσ':σ'=fun _=>none:=funext fun l=>hpost.old l (by simp[getO])
    subst hσ';have hval:=arg_pv hpost.val;rw[show Mof (Mlent M0 σ L) (fun _=>none)=Mlent M0 σ L from funext fun b=>propext (hmof b)]at hval;have hext:∀F:Nat->Prop,FExt F w w':=fun F=>hpost.ext.mono (fun i _ ⟨l,loc,h,_⟩=>(h rfl).elim)
    cases keep with
    |true=>
     refine⟨σ,.pv _ _ ?_,fun _ _ e=>by simp[getO]at e,fun _ _=>rfl,fun _ _ _ e e'=>qN (e'.symm.trans e),hi.sep,fun _ h=>.inl h,hext _⟩;rcases hk rfl with hflat|hnil
     ·exact hval.flat hflat
     ·refine hval.mono (Same.refl _ w') (fun b _ hm=>?_);rcases hm with hm|⟨l,loc,h1,h2⟩
      ·exact .inl hm
      ·exact .inr ⟨l,loc,by show l∉L;simp only[L,hnil];simp,h1,h2⟩
    |false=>
     refine⟨fun l=>if l∈L then none else σ l,.pv _ _ ?_,fun l x e=>?_,fun l e=>?_,fun l lc lc' e e'=>?_,?_,?_,hext _⟩
     ·refine hval.mono (Same.refl _ w') (fun b _ hm=>?_);rcases hm with hm|⟨l,loc,h1,h2⟩
      ·exact .inl hm
      ·by_cases hl:l∈L
       ·simp[hl]at h1
       ·simp[hl]at h1;exact .inr ⟨l,loc,hl,h1,h2⟩
     ·simp only[Bool.false_eq_true,if_false]at e;rw[Z1o]at e
      split at e
      ·rename_i hl;cases e;show(if l∈L then none else σ l)=none;rw[qK hl]
      ·cases e
     ·simp only[Bool.false_eq_true,if_false]at e;rw[Z1o]at e
      split at e
      ·cases e
      ·rename_i hl;exact qJ hl
     ·by_cases hl:l∈L
      ·simp[hl]at e'
      ·simp[hl]at e';exact qN (e'.symm.trans e)
     ·intro l l' loc loc' b e e' eb eb'
      by_cases h1:l∈L
      ·simp[h1]at e
      ·by_cases h2:l'∈L
       ·simp[h2]at e'
       ·simp[h1]at e;simp[h2]at e';exact hi.sep l l' loc loc' b e e' eb eb'
     ·rintro b ⟨l,loc,h1,h2⟩
      by_cases hl:l∈L
      ·simp[hl]at h1
      ·simp[hl]at h1;exact .inl ⟨l,loc,h1,h2⟩
 ·cases keep with
  |true=>simp[getO]at e
  |false=>
   simp only[Bool.false_eq_true,if_false]at e;rw[Z1o]at e
   split at e
   ·cases e;simp[refsO]at hl
   ·cases e
end
structure CellsA (w:World) (M:Nat->Prop) (vs:Array Value) (cs:List PV):Prop where
 sz:vs.size=cs.length
 pr:∀(i:Nat) (p:PV),cs[i]? = some p->PR w M p (vs.getD i undef)
 one:∀i,i<vs.size->(vs.getD i undef).oneCell'=true
theorem CellsA.splice{w:World}{M:Nat->Prop}{vs:Array Value}{cs:List PV}(h:CellsA w M vs cs){off:Nat}{p:PV}{v:Value}(hp:PR w M p v)(h1:pone p=true)(hfit:off+(pcells p).length<=cs.length) :
  CellsA w M (cut vs off v.cells.toList) (splice cs off (pcells p)):=by
 obtain⟨hcs,hcp,hc1⟩:=Z4p hp h1;have hfit':off+v.cells.toList.length<=vs.size:=by simp[hcs,h.sz];exact hfit
 refine⟨by rw[Z14 hfit',h.sz,Z29],fun i q e=>?_,fun i hi=>?_⟩
 ·rw[Z33 off cs _ i hfit]at e;rw[Z1c hfit' i];have e1:v.cells.toList.length=(pcells p).length:=by simp[hcs]
  rw[e1]
  split at e
  ·rename_i hc;rw[qK hc];have:=hcp _ q e;simpa[qb,List.getD]using this
  rename_i hc;rw[qJ hc];exact h.pr i q e
 rw[Z14 hfit']at hi;rw[Z1c hfit' i]
 by_cases hc:off<=i∧i<off+v.cells.toList.length
 ·rw[qK hc];have:=hc1 (i-off) (by simp at hc;omega);simpa[qb,List.getD]using this
 rw[qJ hc];exact h.one i hi
theorem CellsA.agg{w:World}{M:Nat->Prop}{vs:Array Value}{cs:List PV}(h:CellsA w M vs cs):PR w M (.agg cs) (.agg vs):=.agg _ _ h.sz h.pr h.one
theorem CellsA.const{w:World}{M:Nat->Prop}{vs:Array Value}(h:vs.toList.all (·.oneCell')=true):CellsA w M vs (vs.toList.map .val):=by
 refine⟨by simp,fun i p e=>?_,fun i hi=>?_⟩
 ·simp at e;obtain⟨u,hu,rfl⟩:=e;have:vs.getD i undef=u:=by simp[qb,hu]
  rw[this];exact .val u
 ·exact qz.1 h (vs.getD i undef) (by simp[Array.getD,hi])
theorem Zef(off:Nat):∀(l:List Value) (k:Nat) (vs:Array Value),off+k+l.length<=vs.size->(l.zipIdx k).foldl (fun cs (x:Value×Nat)=>cs.setIfInBounds (off+x.2) x.1) vs=cut vs (off+k) l
 | [],k,vs,h=>by simp[cut]
 |v::l,k,vs,h=>by
  simp only[qy]at h;simp only[List.zipIdx_cons,List.foldl_cons];rw[Zef off l (k+1) (vs.setIfInBounds (off+k) v) (by simp;omega)];apply Array.ext';apply List.ext_getElem?;intro i;have hlt:off+k<vs.size:=by omega
  simp only[cut,Array.toList_setIfInBounds];have e1:(vs.toList.set (off+k) v).take (off+(k+1))=vs.toList.take (off+k) ++ [v]:=by
   rw[List.take_set,show off+(k+1)=(off+k)+1 from rfl,List.take_succ_eq_append_getElem (by simpa using hlt)];rw[List.set_append_right _ _ (by simp;omega)];have:off+k-(vs.toList.take (off+k)).length=0:=by simp;omega
   rw[this];rfl
  have e2:(vs.toList.set (off+k) v).drop (off+(k+1)+l.length)=vs.toList.drop (off+(k+1)+l.length):=by
   rw[List.drop_set_of_lt (by omega)]
  rw[e1,e2];have e3:off+(k+1)+l.length=off+k+(v::l).length:=by simp;omega
  rw[e3];simp
theorem Ze3{place:Nat->Option (Nat×Nat)}{vs:Array Value}{i off size:Nat}{v:Value}{rest:List (Nat×Value)}(hp:place i=some (off,size))(hs:v.cells.size=size)(hfit:off+v.cells.size<=vs.size) :
  Instr.fill place vs ((i,v)::rest)=Instr.fill place (cut vs off v.cells.toList) rest:=by
 have hc:(v.cells.size≠size||off+v.cells.size>vs.size)=false:=by
  simp[hs];omega
 have hf:=Zef off v.cells.toList 0 vs (by simp;omega);rw[Nat.add_zero]at hf;have hz:v.cells.zipIdx.foldl (fun cs (x:Value×Nat)=>cs.setIfInBounds (off+x.2) x.1) vs=cut vs off v.cells.toList:=by
  rw[<-hf,<-Array.foldl_toList,Array.toList_zipIdx]
 simp only[Instr.fill,hp,hc,Bool.false_eq_true,if_false];exact congrArg (fun z=>Instr.fill place z rest) hz
def bparts(place:Nat->Option (Nat×Nat))(ev:Operand->AV):List (Nat×Operand)->List PV->(List PV->Prop)->Prop
 | [],cs,K=>K cs
 |(i,x)::r,cs,K=>match ev x with
  | .pv p=>match place i with
   |some (off,size)=>match pone p,Nat.beq (pcells p).length size,Nat.ble (off+size) cs.length with
    |true,true,true=>bparts place ev r (splice cs off (pcells p)) K
    |_,_,_=>False
   |none=>False
  |_=>False
def Bparts(place:Nat->Option (Nat×Nat))(ev:Operand->AV)(parts:List (Nat×Operand))(cs ds:List PV):Prop:=
 ds.length=cs.length∧(∀i x,(i,x)∈parts->refs (ev x) = [])∧∀(P:Program) (w:World) (St M:Nat->Prop) (σ:Sig) (ρ:Operand->Value) (vs:Array Value),CellsA w M vs cs->(∀i x,(i,x)∈parts->AR P w St M σ (ev x) (ρ x))->
  ∃us,Instr.fill place vs (parts.map fun x=>(x.1,ρ x.2))=some us∧CellsA w M us ds
theorem Z98{place:Nat->Option (Nat×Nat)}{ev:Operand->AV}:∀ {parts:List (Nat×Operand)} {cs:List PV} {K:List PV->Prop},bparts place ev parts cs K->∃ds,K ds∧Bparts place ev parts cs ds
 | [],cs,K,h=>⟨cs,h,rfl,fun i x hx=>by simp at hx,fun P w St M σ ρ vs hc _=>⟨vs,rfl,hc⟩⟩
 |(i,x)::r,cs,K,h=>by
  unfold bparts at h
  split at h
  ·rename_i p hp
   split at h
   ·rename_i off size hpl
    split at h
    ·rename_i h1 h2 h3;obtain⟨ds,hK,hL,hN,hB⟩:=Z98 h;refine⟨ds,hK,by rw[hL,Z29],fun j y hj=>?_,fun P w St M σ ρ vs hc ha=>?_⟩
     ·rcases qk.1 hj with e|hj
      ·cases e;rw[hp];rfl
      exact hN j y hj
     have hx:=arg_pv (hp▸ha i x (by simp));have hlen:=qg h2;have hle:=qi h3;have hcells:=(Z4p hx h1).1;obtain⟨us,hus,hcu⟩:=hB P w St M σ ρ (cut vs off (ρ x).cells.toList) (hc.splice hx h1 (by rw[hlen];exact hle)) (fun j y hj=>ha j y (by simp[hj]));refine⟨us,?_,hcu⟩;rw[List.map_cons,Ze3 hpl (by rw[hcells,hlen]) (by rw[hcells,hlen,hc.sz];exact hle)];exact hus
    exact h.elim
   exact h.elim
  exact h.elim
theorem Z2h{i:Nat}{o:AObj}{l:List (Nat×AObj)}{t:Nat}:getO ((i,o)::l) t=if i=t then some o else getO l t:=by
 simp only[getO]
 by_cases h:i=t
 ·subst h;simp
 rw[show Nat.beq i t=false from by rw[<-Bool.not_eq_true];simpa[Nat.beq_eq]using h];simp[h]
def isSliceT(T:Tab)(t:TypeId):Bool:=
 match T t with
 |some ty=>match ty.und with
  | .slice e=>match T e with
   |some _=>true
   |none=>false
  |_=>false
 |none=>false
theorem Z78{T:Tab}{t:TypeId}(h:isSliceT T t=true):∃size,SliceOf T t size:=by
 unfold isSliceT at h
 split at h
 ·rename_i ty hty
  split at h
  ·rename_i e he
   split at h
   ·rename_i ety hety;exact⟨_,ty,e,ety,hty,he,hety,rfl⟩
   cases h
  cases h
 cases h
section steps
variable {P:Program} {T:Tab} {o:Oper} {ev:Operand->AV} {ob:Nat->Option AObj} {K:AV->Upd->Prop}
def placesOf(T:Tab):List Field->Option (List (Nat×Nat))
 | []=>some []
 |f::fs=>match T f.type,placesOf T fs with
  |some ty,some r=>some ((f.offset,ty.info.size)::r)
  |_,_=>none
theorem Zah(hT:T.ok P):∀ {fs:List Field} {r:List (Nat×Nat)},placesOf T fs=some r->fs.mapM (fun f=>(P.info? f.type).map fun i=>(f.offset,i.size))=some r
 | [],r,h=>by simp[placesOf]at h;subst h;simp
 |f::fs,r,h=>by
  unfold placesOf at h
  split at h
  ·rename_i ty r' h1 h2;cases h;have:=Zah hT h2;simp[List.mapM_cons,(hT _ _ h1).1,this]
  cases h
theorem Zux{t:TypeId}{parts:Array (Nat×Operand)}{ty:TY}{fs:Array Field}{zs:Array Value}{r:List (Nat×Nat)}{ds:List PV}(hT:T.ok P)(ho:o.op = .build t parts)(ht:T t=some ty)(hu:ty.und = .struct fs)(hz:ty.info.zero=some (.agg zs))(h1:zs.toList.all (·.oneCell')=true)
  (hr:placesOf T fs.toList=some r) (hB:Bparts (r.toArray[·]?) ev parts.toList (zs.toList.map .val) ds):Step P o ev ob [] (.pv (.agg ds)):=by
 have hmem:∀i x,(i,x)∈parts.toList->x∈o.op.operands:=by
  intro i x hx;rw[ho];unfold Op.operands;simp only[List.mem_toArray,List.mem_map];exact⟨(i,x),hx,rfl⟩
 refine .of_pure (fun l hl=>by simp[refs]at hl) fun St M0 σ w ρ hi ha hobj=>?_
 obtain⟨hin,hun,_⟩:=hT _ _ ht;rw[hu]at hun;obtain⟨us,hus,hcu⟩:=hB.2.2 P w St (Mof M0 σ) σ ρ zs (CellsA.const h1) (fun i x hx=>ha x (hmem i x hx));have hb:P.built t (parts.map fun(i,x)=>(i,ρ x)).toList=some us:=by
  unfold Program.built;rw[hin,hun];simp only[hz,Zah hT hr,Array.toList_map];exact hus
 exact⟨.agg us,by simp[execOp,ho,run_build w t _ us hb],.pv _ _ hcu.agg⟩
theorem Post.newRow{St M0:Nat->Prop}{σ:Sig}{w:World}{d size n:Nat}{f:Nat->List PV}{cs:List PV}{vs:Array Value}{e:TypeId}(hi:Inv St M0 σ w)(hfr:σ d=none)(hc:CellsA w (Mof M0 σ) vs cs)(hsz:vs.size=n*size)(hmax:n<=maxLen)
  (hs:∀i,i<n->(f i).length=size) (hf:∀i,i<n->∀(j:Nat) (p:PV),(f i)[j]? = some p->cs[i*size+j]? = some p) :
  Post P St M0 σ w [(d,.row size n f)] (.own d) (upd1 σ d ⟨.slice (some ⟨w.heap.size,0,none⟩) n n,some w.heap.size⟩) (.slice (some ⟨w.heap.size,0,none⟩) n n) (w.alloc (.cells vs e)):=by
 refine Post.new hi hfr (fun b hb=>by cases hb;rfl) (by simp) ?_ ?_
 ·refine .row size n f w.heap.size n vs e (Z0g w _) (qL _) hmax hsz hs (fun i hi' j p ep=>?_) hc.one;exact(hc.pr _ p (hf i hi' j p ep)).mono (Z2o _ w _) (Z5n (fun b hb=>by cases hb;exact qL _))
 refine .own _ _ fun loc h=>?_
 simp[upd1]at h;subst h;rfl
def zeroRow(zs:List PV):Nat->List PV
 |0=>[]
 |n+1=>zs++zeroRow zs n
theorem Z81{zs:List PV}:∀ {n:Nat},(zeroRow zs n).length=n*zs.length
 |0=>by simp[zeroRow]
 |n+1=>by simp[zeroRow,Z81 (n:=n),Nat.add_mul];omega
theorem Zj3{zs:List PV}(hz:0<zs.length):∀ {n i:Nat},i<n*zs.length->(zeroRow zs n)[i]? = zs[i%zs.length]?
 |0,i,h=>by simp at h
 |n+1,i,h=>by
  unfold zeroRow
  by_cases h1:i<zs.length
  ·rw[qr h1,Nat.mod_eq_of_lt h1]
  rw[qv (by omega),Zj3 hz (by rw[Nat.add_mul]at h;omega)];congr 1
  conv=>rhs;rw[show i=(i-zs.length)+zs.length from by omega]
  rw[Nat.add_mod_right]
theorem Zuy{t:TypeId}{len d:Nat}{parts:Array (Nat×Operand)}{ty ety:TY}{e:TypeId}{z:Value}{ds:List PV}(hT:T.ok P)(ho:o.op = .buildSlice t len parts)(ht:T t=some ty)(hu:ty.und = .slice e)(he:T e=some ety)(hz:ety.info.zero=some z)
  (hzs:Nat.beq z.cells.size ety.info.size=true) (hpos:0<ety.info.size) (h1:z.cells.toList.all (·.oneCell')=true) (hsmall:Nat.ble (len*ety.info.size) 65536=true)
  (hB:Bparts (fun i=>some (i*ety.info.size,ety.info.size)) ev parts.toList (zeroRow (z.cells.toList.map .val) len) ds) :
  Step P o ev ob [(d,.row ety.info.size len (fun i=>(ds.drop (i*ety.info.size)).take ety.info.size))] (.own d):=by
 have hmem:∀i x,(i,x)∈parts.toList->x∈o.op.operands:=by
  intro i x hx;rw[ho];unfold Op.operands;simp only[List.mem_toArray,List.mem_map];exact⟨(i,x),hx,rfl⟩
 have hback:∀x∈o.op.operands,refs (ev x) = []:=by
  intro x hx;rw[ho]at hx;unfold Op.operands at hx;simp only[List.mem_toArray,List.mem_map]at hx;obtain⟨⟨i,y⟩,hy,rfl⟩:=hx;exact hB.2.1 i y hy
 have hzs:=qg hzs;have hsmall:=qi hsmall;refine⟨?_,fun l hl=>.inr (by simp[refs]at hl;subst hl;simp[getO]),fun i obj e' l hl=>by rw[Z04]at e';split at e'<;>cases e';simp[refsO]at hl,fun l obj e' ⟨x,hx,hl⟩=>?_⟩
 ·intro St M0 σ w ρ hi ha hobj hf;obtain⟨_,hun,_⟩:=hT _ _ ht;obtain⟨hin,_,_⟩:=hT _ _ he;rw[hu]at hun;have hfr:σ d=none:=by
   rcases hf d (by simp[getO])with⟨x,hx,hl⟩|⟨h,_⟩
   ·rw[hback x hx]at hl;simp at hl
   ·exact h
  let vs0:Array Value:=(Array.range (len*ety.info.size)).map (fun i=>z.cells[i%z.cells.size]!)
  have hvs0:CellsA w (Mof M0 σ) vs0 (zeroRow (z.cells.toList.map .val) len):=by
   have hg:∀i,i<len*ety.info.size->vs0.getD i undef=z.cells.getD (i%ety.info.size) undef:=by
    intro i hi';have hlt:i%ety.info.size<z.cells.size:=by rw[hzs];exact Nat.mod_lt _ hpos
    simp[vs0,Array.getD,hi',hzs,show i%ety.info.size<ety.info.size from by rw[<-hzs]at hlt ⊢;exact hlt,getElem!_pos z.cells (i%ety.info.size) hlt]
   refine⟨by simp[vs0,Z81,hzs],fun i p e'=>?_,fun i hi'=>?_⟩
   ·have hlt:i<len*ety.info.size:=by
     have:=(qf.1 e').1;simpa[Z81,hzs]using this
    rw[Zj3 (by simp[hzs];exact hpos) (by simpa[hzs]using hlt)]at e';rw[hg i hlt];simp[hzs]at e';obtain⟨u,hu',rfl⟩:=e';have:z.cells.getD (i%ety.info.size) undef=u:=by simp[qb,hu']
    rw[this];exact .val u
   ·have hi':i<len*ety.info.size:=by simpa[vs0]using hi'
    rw[hg i hi'];have hlt:i%ety.info.size<z.cells.size:=by rw[hzs];exact Nat.mod_lt _ hpos
    exact qz.1 h1 (z.cells.getD (i%ety.info.size) undef) (by simp[Array.getD,hlt])
  obtain⟨us,hus,hcu⟩:=hB.2.2 P w St (Mof M0 σ) σ ρ vs0 hvs0 (fun i x hx=>ha x (hmem i x hx));have hlen:us.size=len*ety.info.size:=by
   rw[hcu.sz,hB.1,Z81];simp[hzs]
  have hrun:(Instr.buildSlice t len (parts.map fun(i,x)=>(i,ρ x))).run P w = .ok (.slice (some ⟨w.heap.size,0,none⟩) len len) (w.alloc (.cells us e)):=by
   have hus':Instr.fill (fun i=>some (i*ety.info.size,ety.info.size)) ((Array.range (len*ety.info.size)).map (fun i=>z.cells[i%z.cells.size]!)) (parts.map fun(i,x)=>(i,ρ x)).toList=some us:=by
    simp only[Array.toList_map];exact hus
   by_cases hp0:len*ety.info.size=0
   ·have hl0:len=0:=by
     rcases Nat.mul_eq_zero.1 hp0 with h|h
     ·exact h
     ·omega
    subst hl0;have hv:vs0=#[]:=by
     apply Array.eq_empty_of_size_eq_zero;simp[vs0]
    rw[hv]at hus;simp[Instr.buildSlice,run_underlying hun,sizeOf,Z0o hin,newRow,show Array.range 0=#[]from rfl,hus]
   ·exact run_buildSlice w t e len _ us ety.info z hun hin hz (by omega) hp0 hus'
  unfold OpRuns;rw[show(execOp ρ o).run P w = .ok (.value (.slice (some ⟨w.heap.size,0,none⟩) len len)) (w.alloc (.cells us e))from by simp[execOp,ho,hrun]];refine⟨_,Post.newRow hi hfr hcu hlen (by unfold maxLen;have:len*1<=len*ety.info.size:=Nat.mul_le_mul_left _ hpos;omega) (fun i hi'=>?_) (fun i hi' j p ep=>?_)⟩
  ·rw[qq,List.length_drop,<-hcu.sz,hlen];have:(i+1)*ety.info.size<=len*ety.info.size:=qu _ (by omega);rw[Nat.add_mul]at this;omega
  ·rw[qm]at ep
   split at ep
   ·rw[qA]at ep;exact ep
   ·cases ep
 ·rw[hback x hx]at hl;simp at hl
def Src(w:World)(M:Nat->Prop)(v:Value)(size m:Nat)(g:Nat->List PV):Prop:=
 ∃(a:Option Addr) (c:Nat) (news:List Value),v = .slice a m c∧news.length=m*size∧(∀i,i<m->(g i).length=size)∧(∀u∈news,u.oneCell'=true)∧
  (0<m->∃ad,a=some ad∧∀(j:Nat) (u:Value),news[j]? = some u->w.cell? (ad.add j)=some u)∧∀i,i<m->∀(j:Nat) (p:PV),(g i)[j]? = some p->PR w M p (news.getD (i*size+j) undef)
theorem idx_lt{i j m size:Nat}(hi:i<m)(hj:j<size):i*size+j<m*size:=by
 have:(i+1)*size<=m*size:=qu _ (by omega);rw[Nat.add_mul]at this;omega
theorem Src.ro{w:World}{M:Nat->Prop}{v:Value}{size m:Nat}{g:Nat->List PV}(hsz:0<size)(h:PR w M (.ro size m g) v):Src w M v size m g:=by
 obtain⟨a,cap,u,hv,hcap,hmax,hs,ha,hp⟩:=pr_ro h
 by_cases hm:m=0
 ·subst hm;exact⟨a,cap,[],hv,by simp,fun i hi=>absurd hi (by omega),fun u hu=>by simp at hu,fun h=>absurd h (by omega),fun i hi=>absurd hi (by omega)⟩
 obtain⟨ad,rfl,hb,hM,hc⟩:=ha (by omega);have hdm:∀k,k<m*size->k / size<m∧k%size<size∧k / size*size+k%size=k:=fun k hk=>⟨(Nat.div_lt_iff_lt_mul hsz).2 hk,Nat.mod_lt _ hsz,by rw[Nat.mul_comm];exact Nat.div_add_mod k size⟩
 have hgd:∀k,k<m*size->((List.range (m*size)).map fun k=>u (k / size) (k%size)).getD k undef=u (k / size) (k%size):=fun k hk=>by simp[List.getD,hk]
 refine⟨some ad,cap,(List.range (m*size)).map fun k=>u (k / size) (k%size),hv,by simp,hs,fun x hx=>?_,fun _=>⟨ad,rfl,fun j x e=>?_⟩,fun i hi j p e=>?_⟩
 ·simp only[List.mem_map,List.mem_range]at hx;obtain⟨k,hk,rfl⟩:=hx;obtain⟨h1,h2,h3⟩:=hdm k hk;exact(hc _ h1 _ h2).2
 ·have hj:j<m*size:=by simpa using(qf.1 e).1
  simp[hj]at e;subst e;obtain⟨h1,h2,h3⟩:=hdm j hj;have:=(hc _ h1 _ h2).1;rwa[h3]at this
 have hj:j<size:=by rw[<-hs i hi];exact(qf.1 e).1
 rw[hgd _ (idx_lt hi hj)];have e1:(i*size+j) / size=i:=by rw[Nat.add_comm,Nat.add_mul_div_right _ _ hsz,Nat.div_eq_of_lt hj,Nat.zero_add]
 have e2:(i*size+j)%size=j:=by rw[Nat.add_comm,Nat.add_mul_mod_self_right,Nat.mod_eq_of_lt hj]
 rw[e1,e2];exact hp i hi j p e
theorem Src.row{w:World}{St M0:Nat->Prop}{σ:Sig}{l size m:Nat}{g:Nat->List PV}(h:At P w St M0 σ l (.row size m g)){v:Value}(hv:∀loc,σ l=some loc->v=loc.ref):Src w (Mof M0 σ) v size m g:=by
 obtain⟨loc,hl,ho⟩:=h;have hv:=hv loc hl;subst hv;cases ho with
 |row0 size f a=>exact⟨a,0,[],rfl,by simp,fun i hi=>absurd hi (by omega),fun u hu=>by simp at hu,fun h=>absurd h (by omega),fun i hi=>absurd hi (by omega)⟩
 |row size n f b cap vs t hb hn hmax hsz hs hp h1=>
  have hle:m*size<=vs.size:=by rw[hsz];exact qu _ hn
  have hgd:∀k,k<m*size->(vs.toList.take (m*size)).getD k undef=vs.getD k undef:=fun k hk=>by simp[List.getD,qm,hk,qb]
  refine⟨some ⟨b,0,none⟩,cap,vs.toList.take (m*size),rfl,by simp;omega,hs,fun u hu=>?_,fun _=>⟨_,rfl,fun j u e=>?_⟩,fun i hi j p e=>?_⟩
  ·obtain⟨k,hk⟩:=List.getElem?_of_mem hu;have hk':k<m*size:=by have:=(qf.1 hk).1;simp at this;omega
   have:=h1 k (by omega);rw[<-hgd k hk',List.getD,hk]at this;exact this
  ·have hj:j<m*size:=by have:=(qf.1 e).1;simp at this;omega
   rw[qm,qK hj]at e;rw[Z2b];simp only[World.cell?,hb];simpa using e
  have hj:j<size:=by rw[<-hs i hi];exact(qf.1 e).1
  rw[hgd _ (idx_lt hi hj)];exact hp i hi j p e
theorem Src.nil{w:World}{M:Nat->Prop}{size c:Nat}{g:Nat->List PV}:Src w M (.slice none 0 c) size 0 g:=
 ⟨none,c,[],rfl,by simp,fun i hi=>absurd hi (by omega),fun u hu=>by simp at hu,fun h=>absurd h (by omega),fun i hi=>absurd hi (by omega)⟩
theorem Post.made{St M0:Nat->Prop}{σ:Sig}{w w':World}{d:Nat}{o':AObj}{loc:Loc}(hi:Inv St M0 σ w)(hf:σ d=none)(hb:∀b,loc.blk=some b->w.heap.size<=b)(hx:FExt (fun _=>False) w w')(hg:o'≠.gone)
  (ho:OR P w' St (Mof M0 (upd1 σ d loc)) (upd1 σ d loc) o' loc):Post P St M0 σ w [(d,o')] (.own d) (upd1 σ d loc) loc.ref w':=by
 refine⟨.own _ _ fun lc h=>by simp[upd1]at h;rw[h],fun l x e=>?_,fun l e=>?_,fun l lc lc' e e'=>?_,?_,fun b h=>?_,hx.mono (fun _ _ h=>h.elim)⟩
 ·rw[Z04]at e
  split at e
  ·rename_i h;cases e;subst h;have:upd1 σ d loc d=some loc:=by simp[upd1]
   cases o'<;>first|exact⟨loc,this,ho⟩|exact absurd rfl hg
  cases e
 ·rw[Z04]at e
  split at e
  ·cases e
  rename_i h;simp[upd1,show ¬l=d from fun x=>h x.symm]
 ·unfold upd1 at e'
  split at e'
  ·rename_i h;rw[h,hf]at e;cases e
  exact qN (e'.symm.trans e)
 ·intro l l' lc lc' b e e' eb eb';unfold upd1 at e e'
  split at e<;>split at e'
  ·rename_i h h';rw[h,h']
  ·cases e;have:=hb b eb;have:=hi.lt b ⟨l',lc',e',eb'⟩;omega
  ·cases e';have:=hb b eb';have:=hi.lt b ⟨l,lc,e,eb⟩;omega
  exact hi.sep l l' lc lc' b e e' eb eb'
 rcases Z16 h with h|h
 ·exact .inl h
 exact .inr (hb b h)
def drop1(σ:Sig)(l:Nat):Sig:=fun k=>if k=l then none else σ k
theorem Z2l{σ:Sig}{l b:Nat}(h:owned (drop1 σ l) b):owned σ b:=by
 obtain⟨k,loc,e,hb⟩:=h;unfold drop1 at e
 split at e
 ·cases e
 exact⟨k,loc,e,hb⟩
theorem Inv.drop1{St M0:Nat->Prop}{σ:Sig}{w:World}(hi:Inv St M0 σ w)(l:Nat):Inv St M0 (drop1 σ l) w:=
 ⟨fun k k' lc lc' b e e' eb eb'=>by
  unfold Go.Abs.drop1 at e e'
  split at e<;>split at e'
  ·cases e
  ·cases e
  ·cases e'
  ·exact hi.sep k k' lc lc' b e e' eb eb',fun b h=>hi.lt b (Z2l h),fun b h=>⟨(hi.m0 b h).1,fun hh=>(hi.m0 b h).2 (Z2l hh)⟩,fun b h=>⟨(hi.st b h).1,fun hh=>(hi.st b h).2 (Z2l hh)⟩,hi.gl.mono (Same.refl _ w) (fun b _ hb=>hb.imp id Z2l)⟩
theorem Post.moved{St M0:Nat->Prop}{σ:Sig}{w w':World}{d l:Nat}{o':AObj}{loc loc0:Loc}(hi:Inv St M0 σ w)(hf:σ d=none)(hl:σ l=some loc0)(hb:∀b,loc.blk=some b->loc0.blk=some b∨w.heap.size<=b)
  (hx:FExt (fun b=>loc0.blk=some b) w w') (hg:o'≠.gone) (ho:OR P w' St (Mof M0 (upd1 (drop1 σ l) d loc)) (upd1 (drop1 σ l) d loc) o' loc) :
  Post P St M0 σ w [(d,o'),(l,.gone)] (.own d) (upd1 (drop1 σ l) d loc) loc.ref w':=by
 have hdl:d≠l:=fun e=>by rw[e,hl]at hf;cases hf
 have hgo:∀k,getO [(d,o'),(l,AObj.gone)] k=if d=k then some o' else if l=k then some .gone else none:=fun k=>by
  rw[Z2h];split
  ·rfl
  exact Z04
 refine⟨.own _ _ fun lc h=>by simp[upd1]at h;rw[h],fun k x e=>?_,fun k e=>?_,fun k lc lc' e e'=>?_,?_,fun b h=>?_,hx.mono (fun b _ h=>⟨l,loc0,by rw[hgo];simp[hdl],hl,h⟩)⟩
 ·rw[hgo]at e
  split at e
  ·rename_i h;cases e;subst h;have:upd1 (drop1 σ l) d loc d=some loc:=by simp[upd1]
   cases o'<;>first|exact⟨loc,this,ho⟩|exact absurd rfl hg
  split at e
  ·rename_i h1 h2;cases e;subst h2;show upd1 (drop1 σ l) d loc l=none
   simp[upd1,drop1,show ¬l=d from fun x=>h1 x.symm]
  cases e
 ·rw[hgo]at e
  split at e
  ·cases e
  split at e
  ·cases e
  rename_i h1 h2;simp[upd1,drop1,show ¬k=d from fun x=>h1 x.symm,show ¬k=l from fun x=>h2 x.symm]
 ·unfold upd1 drop1 at e'
  split at e'
  ·rename_i h;rw[h,hf]at e;cases e
  split at e'
  ·cases e'
  exact qN (e'.symm.trans e)
 ·intro k k' lc lc' b e e' eb eb';have key:∀(k:Nat) (lc:Loc),drop1 σ l k=some lc->lc.blk=some b->loc.blk=some b->False:=by
   intro k lc e eb hlb;have hk:σ k=some lc∧k≠l:=by
    unfold drop1 at e
    split at e
    ·cases e
    rename_i h;exact⟨e,h⟩
   rcases hb b hlb with h1|h1
   ·exact hk.2 (hi.sep k l lc loc0 b hk.1 hl eb h1)
   have:=hi.lt b ⟨k,lc,hk.1,eb⟩;omega
  unfold upd1 at e e'
  split at e<;>split at e'
  ·rename_i h h';rw[h,h']
  ·cases e;exact(key k' lc' e' eb' eb).elim
  ·cases e';exact(key k lc e eb eb').elim
  exact(hi.drop1 l).sep k k' lc lc' b e e' eb eb'
 rcases Z16 h with h|h
 ·exact .inl (Z2l h)
 rcases hb b h with h1|h1
 ·exact .inl ⟨l,loc0,hl,h1⟩
 exact .inr h1
structure ElemOf (P:Program) (t e:TypeId) (i:TypeInfo) (z:Value):Prop where
 ht:P.underlying t=some (.slice e)
 hi:P.info? e=some i
 hz:i.zero=some z
 zs:z.cells.size=i.size
 z1:∀u∈z.cells.toList,u.oneCell'=true
 pos:0<i.size
 small:i.bytes<=65536
def elemOf(T:Tab)(t:TypeId)(size:Nat):Bool:=
 match T t with
 |some ty=>match ty.und with
  | .slice e=>match T e with
   |some ety=>match ety.info.zero with
    |some z=>Nat.beq ety.info.size size&&Nat.beq z.cells.size size&&z.cells.toList.all (·.oneCell')&&Nat.blt 0 size&&Nat.ble ety.info.bytes 65536
    |none=>false
   |none=>false
  |_=>false
 |none=>false
theorem Z6r(hT:T.ok P){t size:Nat}(h:elemOf T t size=true):∃e i z,ElemOf P t e i z∧i.size=size:=by
 unfold elemOf at h
 split at h
 ·rename_i ty hty
  split at h
  ·rename_i e he
   split at h
   ·rename_i ety hety
    split at h
    ·rename_i z hz;simp only[qc]at h;obtain⟨⟨⟨⟨h1,h2⟩,h3⟩,h4⟩,h5⟩:=h;obtain⟨_,hu,_⟩:=hT _ _ hty;obtain⟨hi,_,_⟩:=hT _ _ hety;have h1:=qg h1;have h2:=qg h2;rw[he]at hu;exact⟨e,ety.info,z,⟨hu,hi,hz,h2.trans h1.symm,qz.1 h3,by rw[h1];exact qi h4,qi h5⟩,h1⟩
    cases h
   cases h
  cases h
 cases h
theorem ElemOf.sliceOf{t e:TypeId}{i:TypeInfo}{z:Value}(h:ElemOf P t e i z):P.underlying t=some (.slice e):=h.ht
theorem Src.kit{w:World}{M:Nat->Prop}{v:Value}{size m:Nat}{g:Nat->List PV}{tx e:TypeId}(hk:P.underlying tx=some (.slice e))(h:Src w M v size m g) :
  ∃news,Go.Src P size tx v m news w∧(∀i,i<m->(g i).length=size)∧∀i,i<m->∀(j:Nat) (p:PV),(g i)[j]? = some p->PR w M p (news.getD (i*size+j) undef):=by
 obtain⟨a,c,news,rfl,hl,hg,h1,ha,hp⟩:=h;refine⟨news,?_,hg,hp⟩
 by_cases hm:0<m
 ·obtain⟨ad,rfl,hc⟩:=ha hm;exact Src.ofSlice w hk ad m c news hl hc h1
 have hm:m=0:=by omega
 subst hm;have hn:news = []:=List.eq_nil_of_length_eq_zero (by simpa using hl);subst hn;cases a with
 |none=>exact Src.ofNil w hk c
 |some ad=>exact Src.ofSlice w hk ad 0 c [] (by simp) (fun j u e=>by simp at e) (fun u hu=>by simp at hu)
theorem Ztv{w:World}{t tx ty e t':TypeId}{i:TypeInfo}{z x:Value}(hE:ElemOf P t e i z){b n cap m:Nat}{vs:Array Value}{news:List Value}(hb:w.heap[b]? = some (.cells vs t' (0,0)))(hs:Go.Src P i.size tx x m news w)
  (hroom:n+m<=cap) (hsz:vs.size=cap*i.size) :
  (Builtin.append_ #[t,tx] ty #[.slice (some ⟨b,0,none⟩) n cap,x]).run P w = .ok (.slice (some ⟨b,0,none⟩) (n+m) cap) (w.setRow b (cut vs (n*i.size) news)):=by
 have hfit:n*i.size+news.length<=vs.size:=by rw[hs.newsLen,hsz,<-Nat.add_mul];exact qu _ hroom
 have hst:=run_storeCells_at P b (n*i.size) t' news 0 vs w hb (by simpa using hfit) hs.one;simp only[Nat.add_zero]at hst;rcases hs.kind with⟨e',hk⟩|hk<;>simp[Builtin.append_,run_underlying hE.ht,run_underlying hk,sizeOf,typeInfo,hE.hi,hs.len,hroom,hs.cells,Addr.add_lit,hst,cut]
theorem Zhi{w:World}{t tx ty e:TypeId}{i:TypeInfo}{z x:Value}(hE:ElemOf P t e i z){a:Option Addr}{cap:Nat}{news:List Value}(hs:Go.Src P i.size tx x 0 news w) :
  (Builtin.append_ #[t,tx] ty #[.slice a 0 cap,x]).run P w = .ok (.slice a 0 cap) w:=by
 have hn:news = []:=List.eq_nil_of_length_eq_zero (by simpa using hs.newsLen);subst hn;rcases hs.kind with⟨e',hk⟩|hk<;>cases a<;>simp[Builtin.append_,run_underlying hE.ht,run_underlying hk,sizeOf,typeInfo,hE.hi,hs.len,hs.cells,storeCells]
theorem Zbj{z:Array Value}{n i:Nat}(h:i<n*z.size)(h1:∀u∈z.toList,u.oneCell'=true):((Builtin.zeroCells z n).getD i undef).oneCell'=true:=by
 have hpos:0<z.size:=by
  rcases Nat.eq_zero_or_pos z.size with h0|h0
  ·rw[h0]at h;simp at h
  exact h0
 have hlt:i%z.size<z.size:=Nat.mod_lt _ hpos;have:(Builtin.zeroCells z n).getD i undef=z[i%z.size]:=by
  unfold Builtin.zeroCells;simp[Array.getD,h,getElem!_pos z (i%z.size) hlt]
 rw[this];exact h1 _ (by simp)
theorem Zep{w:World}{M:Nat->Prop}{St:Nat->Prop}{σ:Sig}{e:TypeId}{i:TypeInfo}{z:Value}{t:TypeId}(hE:ElemOf P t e i z){n m sCap:Nat}{f g:Nat->List PV}{olds news:List Value}
  (hlo:olds.length=n*i.size) (ho1:∀u∈olds,u.oneCell'=true) (hf:∀k,k<n->(f k).length=i.size) (hop:∀k,k<n->∀(j:Nat) (p:PV),(f k)[j]? = some p->PR w M p (olds.getD (k*i.size+j) undef))
  (hln:news.length=m*i.size) (hn1:∀u∈news,u.oneCell'=true) (hg:∀k,k<m->(g k).length=i.size) (hnp:∀k,k<m->∀(j:Nat) (p:PV),(g k)[j]? = some p->PR w M p (news.getD (k*i.size+j) undef))
  (hmax:n+m<=maxLen) {w':World} (hs:Same M w w') {M':Nat->Prop} (hm:∀b,b<w.heap.size->M' b->M b)
  (hw':w'.heap[w.heap.size]? = some (.cells ((olds++news).toArray++Builtin.zeroCells z.cells (grownCap w (n+m) sCap e-(n+m))) e)) :
  OR P w' St M' σ (.row i.size (n+m) (fun k=>if k<n then f k else g (k-n))) ⟨.slice (some ⟨w.heap.size,0,none⟩) (n+m) (grownCap w (n+m) sCap e),some w.heap.size⟩:=by
 have hge:=grownCap_ge w (n+m) sCap e;have hle:=grownCap_le_maxLen w (n+m) sCap e hmax;generalize grownCap w (n+m) sCap e=c at *;have hl2:(olds++news).length=(n+m)*i.size:=by rw[ql,hlo,hln,Nat.add_mul]
 have hzl:(Builtin.zeroCells z.cells (c-(n+m))).size=(c-(n+m))*i.size:=by rw[size_zeroCells,hE.zs]
 have hget:∀k,k<(n+m)*i.size->((olds++news).toArray++Builtin.zeroCells z.cells (c-(n+m))).getD k undef=(olds++news).getD k undef:=by
  intro k hk;have hk':k<(olds++news).toArray.size:=by simp only[List.size_toArray,hl2];exact hk
  rw[Z0b hk'];simp[qb,List.getD]
 refine .row i.size (n+m) _ w.heap.size c _ e hw' hge hle ?_ (fun k hk=>?_) (fun k hk j p ep=>?_) (fun k hk=>?_)
 ·rw[Array.size_append,hzl,List.size_toArray,hl2,<-Nat.add_mul];congr 1;omega
 ·by_cases h:k<n
  ·rw[qK h];exact hf k h
  rw[qJ h];exact hg _ (by omega)
 ·have hj:j<i.size:=by
   have:=(qf.1 ep).1
   by_cases h:k<n
   ·rw[qK h,hf k h]at this;exact this
   rw[qJ h,hg _ (by omega)]at this;exact this
  rw[hget _ (idx_lt hk hj)]
  by_cases h:k<n
  ·rw[qK h]at ep;have hlt:k*i.size+j<olds.length:=by rw[hlo];exact idx_lt h hj
   have:=hop k h j p ep;rw[List.getD,qr hlt];exact this.mono hs hm
  rw[qJ h]at ep;have hnk:n*i.size<=k*i.size:=qu _ (by omega);have:=hnp (k-n) (by omega) j p ep;rw[List.getD,qv (by rw[hlo];omega),hlo];have e2:k*i.size+j-n*i.size=(k-n)*i.size+j:=by rw[Nat.sub_mul];omega
  rw[e2];exact this.mono hs hm
 by_cases h:k<(n+m)*i.size
 ·rw[hget k h];have hk2:k<(olds++news).length:=by rw[hl2];exact h
  rw[List.getD,List.getElem?_eq_getElem hk2];have hmem:=qE hk2;rcases qo.1 hmem with h3|h3
  ·exact ho1 _ h3
  exact hn1 _ h3
 rw[Array.size_append,List.size_toArray,hl2,size_zeroCells]at hk;rw[Z2g (by simp only[List.size_toArray,hl2];omega)];exact Zbj (by simp only[List.size_toArray,hl2];omega) hE.z1
def SrcArg(ob:Nat->Option AObj)(y:AV)(size m:Nat)(g:Nat->List PV):Prop:=
 (y = .pv (.ro size m g))∨(y = .pv (.nn (.ro size m g)))∨(∃l,y = .own l∧ob l=some (.row size m g))∨(m=0∧∃c,y = .pv (.val (.slice none 0 c)))
theorem SrcArg.src{St M0:Nat->Prop}{σ:Sig}{w:World}{y:AV}{vy:Value}{size m:Nat}{g:Nat->List PV}(hsz:0<size)(h:SrcArg ob y size m g)(ha:AR P w St (Mof M0 σ) σ y vy)(hobj:∀l∈refs y,∀obj,ob l=some obj->At P w St M0 σ l obj):Src w (Mof M0 σ) vy size m g:=by
 rcases h with rfl|rfl|⟨l,rfl,hob⟩|⟨rfl,c,rfl⟩
 ·exact Src.ro hsz (arg_pv ha)
 ·exact Src.ro hsz (PSub.nn.to _ _ _ (arg_pv ha))
 ·exact Src.row (hobj l (by simp[refs]) _ hob) (fun loc hl=>Z0l ha hl)
 have:=pr_val (arg_pv ha);subst this;exact Src.nil
theorem Zus{x y:Operand}{t tx:TypeId}{l d size n m:Nat}{f g:Nat->List PV}(hT:T.ok P)(ho:o.op = .call { callee:=.builtin .append,args:=#[x,y],argTypes:=#[t,tx] })
  (hx:ev x = .own l) (hob:ob l=some (.row size n f)) (hy:SrcArg ob (ev y) size m g) (hyl:l∉refs (ev y)) (he:elemOf T t size=true) (hk:isSliceT T tx=true) (hmax:n+m<=1073741824) (hd:(ob d).isNone=true) (hdl:d∉refs (ev y)∧d≠l) :
  Step P o ev ob [(d,.row size (n+m) (fun k=>if k<n then f k else g (k-n))),(l,.gone)] (.own d):=by
 have hxm:x∈o.op.operands:=by simp[ho,Op.operands,Call.operands]
 have hym:y∈o.op.operands:=by simp[ho,Op.operands,Call.operands]
 have hgo:∀k,getO [(d,AObj.row size (n+m) (fun k=>if k<n then f k else g (k-n))),(l,AObj.gone)] k=if d=k then some (AObj.row size (n+m) (fun k=>if k<n then f k else g (k-n)))else if l=k then some .gone else none:=fun k=>by
  rw[Z2h];split
  ·rfl
  ·exact Z04
 refine⟨?_,fun k hl=>.inr (by simp[refs]at hl;subst hl;rw[hgo];simp),fun i obj e' k hl=>?_,fun k obj e' ⟨u,hu,hl⟩=>?_⟩
 ·intro St M0 σ w ρ hi ha hobj hf;obtain⟨e,i,z,hE,hsize⟩:=Z6r hT he;subst hsize;obtain⟨stx,tyx,ex,_,htx,hex,_,_⟩:=Z78 hk;obtain⟨_,hux,_⟩:=hT _ _ htx;rw[hex]at hux;obtain⟨loc0,hl0,hor⟩:=hobj x hxm l (by simp[hx,refs]) _ hob;have hvx:=Z0l (hx▸ha x hxm) hl0;obtain⟨news,hs,hg,hnp⟩:=(hy.src hE.pos (ha y hym) (fun k hk obj e'=>hobj y hym k hk obj e')).kit hux;have hfr:σ d=none:=by
   rcases hf d (by rw[hgo];simp)with⟨u,hu,hl⟩|⟨h,_⟩
   ·exfalso;simp[ho,Op.operands,Call.operands]at hu;rcases hu with rfl|rfl
    ·rw[hx]at hl;simp[refs]at hl;exact hdl.2 hl
    ·exact hdl.1 hl
   ·exact h
  have hin:(Mof M0 (upd1 (drop1 σ l) d loc0))=(Mof M0 (upd1 (drop1 σ l) d loc0)):=rfl;have grow:∀(base:Option Addr) (sCap:Nat) (olds:List Value),loc0.ref = .slice base n sCap->sCap<n+m->olds.length=n*i.size->(∀u∈olds,u.oneCell'=true)->(∀k,k<n->(f k).length=i.size)->
    (∀k,k<n->∀(j:Nat) (p:PV),(f k)[j]? = some p->PR w (Mof M0 σ) p (olds.getD (k*i.size+j) undef))->(Builtin.firstCells i.size n (.slice base n sCap)).run P w.drew = .ok olds.toArray w.drew->
    OpRuns P o ρ w (fun v' w'=>∃σ',Post P St M0 σ w [(d,.row i.size (n+m) (fun k=>if k<n then f k else g (k-n))),(l,.gone)] (.own d) σ' v' w'):=by
   intro base sCap olds href hlt hlo ho1 hfl hop hold;have hmx:n+m<=maxLen:=by unfold maxLen;omega
   have hby:=hE.small;have hfit:(n+m)*i.bytes<=140737488355328:=by
    have:(n+m)*i.bytes<=1073741824*65536:=Nat.mul_le_mul hmax hby;omega
   have hrun:=run_append_grow_src (P:=P) w t tx o.type e i z hE.ht hE.hi hE.hz base n sCap olds hold (ρ y) m news hs hlt (by omega) (growslice_fits hlt hfit);unfold OpRuns;rw[show(execOp ρ o).run P w = .ok (.value (.slice (some ⟨w.heap.size,0,none⟩) (n+m) (grownCap w (n+m) sCap e))) (w.drew.alloc (.cells ((olds++news).toArray++Builtin.zeroCells z.cells (grownCap w (n+m) sCap e-(n+m))) e))from by
    simp only[execOp,ho,resolve];simp[invoke,builtin,hvx,href,hrun]]
   have hx2:FExt (fun _=>False) w (w.drew.alloc (.cells ((olds++news).toArray++Builtin.zeroCells z.cells (grownCap w (n+m) sCap e-(n+m))) e)):=
    ⟨rfl,rfl,rfl,(Z2o (fun _=>False) w.drew _).1,fun b hb _=>Z12 w.drew _ b hb,Nat.le_succ _⟩
   refine⟨_,Post.moved (loc:=⟨.slice (some ⟨w.heap.size,0,none⟩) (n+m) (grownCap w (n+m) sCap e),some w.heap.size⟩) hi hfr hl0 (fun b hb=>by cases hb;exact .inr (qL _)) (hx2.mono (fun _ _ h=>h.elim)) (by simp) ?_⟩;refine Zep hE hlo ho1 hfl hop hs.newsLen hs.one hg hnp hmx ⟨hx2.size,fun b hb _=>hx2.block b hb (fun h=>h)⟩ (fun b hb hh=>?_) (Z0g w.drew _);rcases hh with hh|hh
   ·exact .inl hh
   ·rcases Z16 hh with h3|h3
    ·exact .inr (Z2l h3)
    ·cases h3;omega
  cases hor with
  |row0 size f a=>
   by_cases hm:m=0
   ·subst hm;have hrun:=Zhi (P:=P) (w:=w) (t:=t) (tx:=tx) (ty:=o.type) hE (a:=a) (cap:=0) hs;unfold OpRuns;rw[show(execOp ρ o).run P w = .ok (.value (.slice a 0 0)) w from by
     simp only[execOp,ho,resolve];simp[invoke,builtin,hvx,hrun]]
    refine⟨_,Post.moved (loc:=⟨.slice a 0 0,none⟩) hi hfr hl0 (fun b hb=>by cases hb) (FExt.refl _ _) (by simp) ?_⟩;exact .row0 _ _ a
   ·refine grow a 0 [] rfl (by omega) (by simp) (fun u hu=>by simp at hu) (fun k hk=>absurd hk (by omega)) (fun k hk=>absurd hk (by omega)) ?_;cases a<;>simp[Builtin.firstCells,loadCells,loadCellsFrom]
  |row size n f b cap vs t' hb hn hmaxc hsz hfl hp h1=>
   by_cases hroom:n+m<=cap
   ·have hrun:=Ztv (P:=P) (w:=w) (t:=t) (tx:=tx) (ty:=o.type) hE hb hs hroom hsz;unfold OpRuns;rw[show(execOp ρ o).run P w = .ok (.value (.slice (some ⟨b,0,none⟩) (n+m) cap)) (w.setRow b (cut vs (n*i.size) news))from by
     simp only[execOp,ho,resolve];simp[invoke,builtin,hvx,hrun]]
    have hx2:=Z5e w b (cut vs (n*i.size) news);have hsame:=Z31 (M0:=M0) hl0 rfl hx2;have hfitn:n*i.size+news.length<=vs.size:=by rw[hs.newsLen,hsz,<-Nat.add_mul];exact qu _ hroom
    refine⟨_,Post.moved (loc:=⟨.slice (some ⟨b,0,none⟩) (n+m) cap,some b⟩) hi hfr hl0 (fun b' hb'=>.inl hb') (hx2.mono (fun k _ h=>by subst h;rfl)) (by simp) ?_⟩;have hM':∀k,k<w.heap.size->Mof M0 (upd1 (drop1 σ l) d ⟨.slice (some ⟨b,0,none⟩) (n+m) cap,some b⟩) k->Mof M0 σ k:=by
     intro k hk hh;rcases hh with hh|hh
     ·exact .inl hh
     ·rcases Z16 hh with h3|h3
      ·exact .inr (Z2l h3)
      ·cases h3;exact .inr ⟨l,_,hl0,rfl⟩
    refine .row i.size (n+m) _ b cap (cut vs (n*i.size) news) t' (setRow_heap w b vs _ t' _ hb) hroom hmaxc (by rw[Z14 hfitn,hsz]) (fun k hk=>?_) (fun k hk j p ep=>?_) (fun k hk=>?_)
    ·by_cases h:k<n
     ·rw[qK h];exact hfl k h
     ·rw[qJ h];exact hg _ (by omega)
    ·rw[Z1c hfitn,hs.newsLen]
     by_cases h:k<n
     ·rw[qK h]at ep;have hj:j<i.size:=by rw[<-hfl k h];exact(qf.1 ep).1
      have:=idx_lt h hj;rw[qJ (by omega)];exact(hp k h j p ep).mono hsame hM'
     ·rw[qJ h]at ep;have hj:j<i.size:=by rw[<-hg (k-n) (by omega)];exact(qf.1 ep).1
      have hnk:n*i.size<=k*i.size:=qu _ (by omega);have h4:=idx_lt hk hj;rw[Nat.add_mul]at h4;rw[qK (by omega)];have e2:k*i.size+j-n*i.size=(k-n)*i.size+j:=by rw[Nat.sub_mul];omega
      rw[e2];exact(hnp (k-n) (by omega) j p ep).mono hsame hM'
    ·rw[Z14 hfitn]at hk;rw[Z1c hfitn]
     by_cases hc:n*i.size<=k∧k<n*i.size+news.length
     ·rw[qK hc];have hlt:k-n*i.size<news.length:=by omega
      rw[List.getD,List.getElem?_eq_getElem hlt];exact hs.one _ (qE hlt)
     ·rw[qJ hc];exact h1 k hk
   ·have hle:n*i.size<=vs.size:=by rw[hsz];exact qu _ hn
    have hgd:∀k,k<n*i.size->(vs.toList.take (n*i.size)).getD k undef=vs.getD k undef:=fun k hk=>by simp[List.getD,qm,hk,qb]
    refine grow (some ⟨b,0,none⟩) cap (vs.toList.take (n*i.size)) rfl (by omega) (by simp;omega) (fun u hu=>?_) hfl (fun k hk j p ep=>?_) ?_
    ·obtain⟨k,hk⟩:=List.getElem?_of_mem hu;have hk':k<n*i.size:=by have:=(qf.1 hk).1;simp at this;omega
     have:=h1 k (by omega);rw[<-hgd k hk',List.getD,hk]at this;exact this
    ·have hj:j<i.size:=by rw[<-hfl k hk];exact(qf.1 ep).1
     rw[hgd _ (idx_lt hk hj)];exact hp k hk j p ep
    ·refine run_firstCells_some w.drew i.size n ⟨b,0,none⟩ n cap _ (by simp;omega) (fun j u ej=>?_);have hj:j<n*i.size:=by have:=(qf.1 ej).1;simp at this;omega
     rw[qm,qK hj]at ej;rw[Z2b];show w.cell? _=_
     simp only[World.cell?,hb];simpa using ej
 ·rw[hgo]at e'
  split at e'
  ·cases e';simp[refsO]at hl
  ·split at e'<;>cases e';simp[refsO]at hl
 ·rw[hgo]at e'
  split at e'
  ·rename_i h;subst h;exfalso;simp[ho,Op.operands,Call.operands]at hu;rcases hu with rfl|rfl
   ·rw[hx]at hl;simp[refs]at hl;exact hdl.2 hl
   ·exact hdl.1 hl
  ·split at e'
   ·cases e';exact .inr rfl
   ·cases e'
end steps
end Go.Abs
