/- YtipbekclhmbclaaGreatDoorY00: walks and contracts. -/
import Derived.Test.YtipbekclhmbclaaGreatDoorX09
import Derived.Laws.RangeString

set_option linter.unusedVariables false
set_option linter.unusedSimpArgs false
set_option linter.unusedSectionVars false

namespace Go.Abs
open Go.Proofs
theorem Z1a(l:List ByteArray)(x:ByteArray)(hl:l.length<=1048576):AC Tryz.prog 18 [.pv (roL 1 cstr l),.pv (vstr x)] [] (.pv (vint (idxOf l x))) []:=by
 refine AC.of_awp (T:=T) T_ok hm Tryz.call18 Tryz.func18 rfl rfl rfl ?_
 conv=>whnf
 refine⟨Nat,fun k=>k<=l.length∧∀j,j<k->l.getD j default≠x,fun k=>⟨[(0,.pv (roL 1 cstr l)),(1,.pv (vstr x)),(5,.pv (vint k))],[]⟩,fun k=>l.length-k,0,[],⟨qe _,fun j h=>absurd h (by omega)⟩,⟨.rfl,.rfl,.rfl⟩,fun k hk=>?_⟩
 conv=>whnf
 refine⟨fun h=>?_,fun h=>?_⟩
 ·simp only[Q0]at h;refine⟨by omega,?_⟩
  conv=>whnf
  refine⟨fun h2=>?_,fun h2=>?_⟩
  ·conv=>whnf
   simp only[Q0]at h2;exact PSub.int (by rw[Z4i (k:=k) (by omega) (by simpa using h2) hk.2])
  conv=>whnf
  refine .inl ⟨wrap64 (by omega),?_⟩
  conv=>whnf
  simp only[decide_eq_false_iff_not]at h2;refine⟨k+1,[],⟨by omega,fun j hj=>?_⟩,by dsimp only;omega,.rfl,.rfl,.rfl⟩
  by_cases e:j=k
  ·subst e;simpa using h2
  exact hk.2 j (by omega)
 conv=>whnf
 simp only[Q1]at h;exact PSub.int (by rw[Zew fun j hj=>hk.2 j (by omega)])
open Go.Proofs Go.RowKit
set_option maxRecDepth 10000
section
variable {H:Type} {enc:TypeId×Value->H} {w:World} {bulk:DataW H->Nat}
theorem Zsz:Opens enc Tryz.prog w bulk BB 124 (fun n:Int=>[.val (.int .u64 n)]) (fun _=>True):=(Opens.int Tryz.underlying124).imp id (fun _=>rfl) (fun _ _=>trivial)
theorem Z5q:Opens enc Tryz.prog w bulk BB 4 (fun b:Bool=>[vbool b]) (fun _=>True):=Opens.bool Tryz.underlying4
def goodItem(x:Item):Prop:=goodKey x.key∧goodVal x.value∧inI64 x.version
theorem Zsc(hB:BulkOk bulk):Opens enc Tryz.prog w bulk BB 107 cItem goodItem:=
 (Opens.struct hB Tryz.underlying107 (by kernel_rfl) (.cons (size:=3) rfl (by kernel_rfl) (op_Key hB) (.cons (size:=3) rfl (by kernel_rfl) (Zae hB) (.cons (size:=1) rfl (by kernel_rfl) op_int .nil)))).imp (fun x=>⟨x.1,x.2.1,x.2.2.1⟩) (fun _=>rfl) (fun _ h=>⟨h.1,h.2.1,h.2.2.1⟩)
def goodItems(l:List Item):Prop:=smallL l∧∀i,i<l.length->goodItem (l.getD i default)
theorem Zgm(hB:BulkOk bulk):Opens enc Tryz.prog w bulk BB 31 (fun l:List Item=>[roL 7 cItem l]) goodItems:=
 (Opens.slice hB Tryz.underlying31 (by kernel_rfl) (by decide) (Zsc hB)).imp id (fun _=>rfl) (fun _ h=>h)
theorem Zgk(hB:BulkOk bulk):Opens enc Tryz.prog w bulk BB 70 cAttr smallA:=
 (Opens.struct hB Tryz.underlying70 (by kernel_rfl) (.cons (size:=1) rfl (by kernel_rfl) (Z0k hB) (.cons (size:=1) rfl (by kernel_rfl) op_int (.cons (size:=1) rfl (by kernel_rfl) op_int (.cons (size:=1) rfl (by kernel_rfl) op_int (.cons (size:=1) rfl (by kernel_rfl) (Z2k hB) (.cons (size:=1) rfl (by kernel_rfl) Z5q (.cons (size:=1) rfl (by kernel_rfl) Z5q .nil)))))))).imp
  (fun x=>⟨x.1,x.2.1,x.2.2.1,x.2.2.2.1,x.2.2.2.2.1,x.2.2.2.2.2.1,x.2.2.2.2.2.2.1⟩) (fun _=>rfl) (fun _ h=>h.2.2.2.2.1)
theorem Z73{α:Type}[Inhabited α]{l:List α}{p:α->Prop}(h:∀i,i<l.length->p (l.getD i default))(hd:p default)(i:Nat):p (l.getD i default):=by
 by_cases hi:i<l.length
 ·exact h i hi
 have:l.getD i default=default:=by simp[List.getD,Nat.le_of_not_lt hi]
 rw[this];exact hd
theorem Zsm(hB:BulkOk bulk):Opens enc Tryz.prog w bulk BB 110 (fun l:List Attr=>[roL 7 cAttr l]) (fun l=>smallL l∧∀i,smallA (l.getD i default)):=
 (Opens.slice hB Tryz.underlying110 (by kernel_rfl) (by decide) (Zgk hB)).imp id (fun _=>rfl) (fun _ h=>⟨h.1,Z73 h.2 (qe _)⟩)
theorem Zs6(hB:BulkOk bulk):Opens enc Tryz.prog w bulk BB 160 cEff (fun _=>True):=
 (Opens.struct hB Tryz.underlying160 (by kernel_rfl) (.cons (size:=1) rfl (by kernel_rfl) op_int (.cons (size:=1) rfl (by kernel_rfl) (Z0k hB) (.cons (size:=1) rfl (by kernel_rfl) op_int .nil)))).imp (fun x=>⟨x.1,x.2.1,x.2.2.1⟩) (fun _=>rfl) (fun _ _=>trivial)
theorem Zsq(hB:BulkOk bulk):Opens enc Tryz.prog w bulk BB 155 (fun l:List Eff=>[roL 3 cEff l]) smallL:=
 (Opens.slice hB Tryz.underlying155 (by kernel_rfl) (by decide) (Zs6 hB)).imp id (fun _=>rfl) (fun _ h=>h.1)
theorem Zs4(hB:BulkOk bulk):Opens enc Tryz.prog w bulk BB 157 cCmd smallC:=
 (Opens.struct hB Tryz.underlying157 (by kernel_rfl) (.cons (size:=1) rfl (by kernel_rfl) (Z0k hB) (.cons (size:=7) rfl (by kernel_rfl) (Zgk hB) (.cons (size:=1) rfl (by kernel_rfl) (Zsq hB) .nil)))).imp (fun x=>⟨x.1,x.2.1,x.2.2.1⟩) (fun _=>rfl) (fun _ h=>⟨h.2.1,h.2.2.1⟩)
theorem Zso(hB:BulkOk bulk):Opens enc Tryz.prog w bulk BB 111 (fun l:List Cmd=>[roL 9 cCmd l]) (fun l=>smallL l∧∀i,smallC (l.getD i default)):=
 (Opens.slice hB Tryz.underlying111 (by kernel_rfl) (by decide) (Zs4 hB)).imp id (fun _=>rfl) (fun _ h=>⟨h.1,Z73 h.2 ⟨qe _,qe _⟩⟩)
theorem Zs3(hB:BulkOk bulk):Opens enc Tryz.prog w bulk BB 113 cClu smallK:=
 (Opens.struct hB Tryz.underlying113 (by kernel_rfl) (.cons (size:=1) rfl (by kernel_rfl) (Z0k hB) (.cons (size:=1) rfl (by kernel_rfl) (Zsm hB) (.cons (size:=1) rfl (by kernel_rfl) (Zso hB) (.cons (size:=1) rfl (by kernel_rfl) (Z2k hB) .nil))))).imp (fun x=>⟨x.1,x.2.1,x.2.2.1,x.2.2.2.1⟩) (fun _=>rfl) (fun _ h=>⟨h.2.1.1,h.2.1.2,h.2.2.1.1,h.2.2.1.2,h.2.2.2.1⟩)
theorem Zue:smallK default:=⟨qe _,fun _=>qe _,qe _,fun _=>⟨qe _,qe _⟩,qe _⟩
theorem Zsn(hB:BulkOk bulk):Opens enc Tryz.prog w bulk BB 22 (fun l:List Clu=>[roL 4 cClu l]) smallKs:=
 (Opens.slice hB Tryz.underlying22 (by kernel_rfl) (by decide) (Zs3 hB)).imp id (fun _=>rfl) (fun _ h=>⟨h.1,Z73 h.2 Zue⟩)
theorem Zs5(hB:BulkOk bulk):Opens enc Tryz.prog w bulk BB 126 cDev smallD:=
 (Opens.struct hB Tryz.underlying126 (by kernel_rfl) (.cons (size:=1) rfl (by kernel_rfl) op_int (.cons (size:=1) rfl (by kernel_rfl) Zsz (.cons (size:=1) rfl (by kernel_rfl) op_int (.cons (size:=1) rfl (by kernel_rfl) Z5q (.cons (size:=1) rfl (by kernel_rfl) op_int (.cons (size:=1) rfl (by kernel_rfl) (Z0k hB) (.cons (size:=1) rfl (by kernel_rfl) (Z2k hB) .nil)))))))).imp
  (fun x=>⟨x.1,x.2.1,x.2.2.1,x.2.2.2.1,x.2.2.2.2.1,x.2.2.2.2.2.1,x.2.2.2.2.2.2.1⟩) (fun _=>rfl) (fun _ h=>⟨h.2.2.2.2.2.2.1,h.1.1,h.1.2⟩)
theorem Zsp(hB:BulkOk bulk):Opens enc Tryz.prog w bulk BB 23 (fun l:List Dev=>[roL 7 cDev l]) (fun l=>smallL l∧∀i,smallD (l.getD i default)):=
 (Opens.slice hB Tryz.underlying23 (by kernel_rfl) (by decide) (Zs5 hB)).imp id (fun _=>rfl) (fun _ h=>⟨h.1,Z73 h.2 ⟨qe _,by decide,by decide⟩⟩)
theorem Zsb(hB:BulkOk bulk):Opens enc Tryz.prog w bulk BB 25 cHom smallH:=
 (Opens.struct hB Tryz.underlying25 (by kernel_rfl) (.cons (size:=1) rfl (by kernel_rfl) (Zsn hB) (.cons (size:=1) rfl (by kernel_rfl) (Zsp hB) .nil))).imp (fun x=>⟨x.1,x.2.1⟩) (fun _=>rfl) (fun _ h=>⟨h.1,h.2.1.1,h.2.1.2⟩)
end
variable [Globals]
namespace Ex
end Ex
theorem Zhv:∀(l:List Ex) (k:Nat),k<l.length->sizeL (l.take (k+1))=sizeL (l.take k)+sizeE (l.getD k default)
 |e::l,0,_=>by simp[sizeL]
 |e::l,k+1,h=>by
  have:=Zhv l k (by simpa using h);simp only[List.take_succ_cons,sizeL,this,List.getD_cons_succ];omega
theorem Zht{l:List Ex}{e:Ex}(h:e∈l):sizeE e<=sizeL l:=by
 induction l with
 |nil=>simp at h
 |cons x l ih=>
  rw[sizeL];rcases qk.1 h with rfl|h
  ·omega
  have:=ih h;omega
theorem Zud{l:List Ex}:l.length<=sizeL l:=by
 induction l with
 |nil=>simp
 |cons x l ih=>rw[sizeL,Z26];simp;omega
theorem Zhs{l:List Ex}{k:Nat}:sizeL (l.take k)<=sizeL l:=by
 induction l generalizing k with
 |nil=>simp
 |cons x l ih=>
  cases k with
  |zero=>simp[sizeL]
  |succ k=>have:=@ih k;simp only[List.take_succ_cons,sizeL];omega
end Go.Abs
namespace Go.Abs
open Go.Proofs
set_option maxRecDepth 10000
theorem Z8d(e:Ex)(he:sizeE e<=1073741824):AC Tryz.prog 22 [.pv (.agg (cEx e))] [] (.pv (vint (sizeE e))) []:=by
 have hsz:=Z26 e;have hkl:=Zud (l:=e.kids);have ih:∀k,k<e.kids.length->AC Tryz.prog 22 [.pv (.agg (cEx (e.kids.getD k default)))] [] (.pv (vint (sizeE (e.kids.getD k default)))) []:=fun k hk=>
  have:=Ex.kid_lt (Ex.kid_at hk)
  Z8d (e.kids.getD k default) (by have:=Zht (Ex.kid_at hk);omega)
 refine AC.ex ?_;refine AC.of_awp (T:=T) T_ok hm Tryz.call22 Tryz.func22 rfl rfl rfl ?_
 conv=>whnf
 refine loop_k (ι:=Nat) [1] [1] (fun k=>k<=e.kids.length∧True) (fun k=>e.kids.length-k) 0 (fun k=>[(3,.pv (vint (1+sizeL (e.kids.take k)))),(4,.pv (vint k))]) (fun _=>[]) [] ⟨qe _,trivial⟩ ?_ (fun k hk=>?_)
 ·exact QD
 obtain⟨hkn,-⟩:=hk
 conv=>whnf
 have hle:=Zhs (l:=e.kids) (k:=k)
 repeat(any_goals((first|refine⟨QT ?_,QF ?_⟩<;>intro h<;>(try simp only[Q0,Q1,Q2,Q3,Q4,Q5,Q6,Q7,Q8,reduceCtorEq]at h)|refine .inl ⟨_,ih k (by omega),?_⟩|refine QI ?_)<;>conv=>whnf))
 ·have h1:k<e.kids.length:=by omega
  have hst:=Zhv e.kids k h1;have hmem:=Zhs (l:=e.kids) (k:=k+1);refine .inl ⟨wrap64 (by omega),?_⟩
  conv=>whnf
  refine .inl ⟨wrap64 (by omega),?_⟩
  conv=>whnf
  refine⟨k+1,[],⟨by omega,trivial⟩,by first|omega|(dsimp only;omega),?_⟩;(repeat'(first|exact QC|refine And.intro ?_ ?_));refine PSub.int ?_;omega
 refine PSub.int ?_;rw[List.take_of_length_le (by omega)];omega
termination_by SizeOf.sizeOf e
open Go.RowKit
section
variable {H:Type} (enc:TypeId×Value->H) (P:Program) (w:World) (bulk:DataW H->Nat) (B:Nat)
end
section
variable {H:Type} {enc:TypeId×Value->H} {P:Program} {w:World} {bulk:DataW H->Nat} {B:Nat}
theorem Opens.toU{t:TypeId}{α:Type}{cs:α->List PV}{good:α->Prop}{N:Nat}(h:Opens enc P w bulk B t cs good):OpensU enc P w bulk B N t cs good (fun _=>0):=by
 intro sp fuel vs x _ hx hb;obtain⟨a,h1,h2⟩:=h sp fuel vs x hx hb;exact⟨a,h1,qe _,h2⟩
end
open Go.Proofs Go.RowKit
section
variable {H:Type} {enc:TypeId×Value->H} {w:World} {bulk:DataW H->Nat}
theorem Zhu:∀l:List Ex,(l.map sizeE).sum=sizeL l
 | []=>rfl
 |e::l=>by rw[List.map_cons,List.sum_cons,sizeL,Zhu l]
theorem Zs9(hB:BulkOk bulk)(hS:BulkSum bulk):∀N,OpensU enc Tryz.prog w bulk BB N 61 cEx (fun _=>True) sizeE:=by
 have step:∀N,OpensU enc Tryz.prog w bulk BB N 61 cEx (fun _=>True) sizeE->OpensU enc Tryz.prog w bulk BB (N+1+1) 61 cEx (fun _=>True) sizeE:=by
  intro N ih;have hk:=OpensU.slice hB hS (t:=59) Tryz.underlying59 (size:=11) (by kernel_rfl) (by decide) ih;refine(OpensU.struct hB hS Tryz.underlying61 (by kernel_rfl) (.cons (size:=1) rfl (by kernel_rfl) op_int.toU (.cons (size:=1) rfl (by kernel_rfl) op_int.toU (.cons (size:=1) rfl (by kernel_rfl) op_int.toU (.cons (size:=1) rfl (by kernel_rfl) (Z0k hB).toU
   (.cons (size:=3) rfl (by kernel_rfl) (Zae hB).toU (.cons (size:=3) rfl (by kernel_rfl) (op_Key hB).toU (.cons (size:=1) rfl (by kernel_rfl) hk .nil)))))))).imp (fun x=>.mk x.1 x.2.1 x.2.2.1 x.2.2.2.1 x.2.2.2.2.1 x.2.2.2.2.2.1 x.2.2.2.2.2.2.1) (fun a _ vs hr=>?_) (fun _ _=>trivial) (fun a=>?_)
  ·exact Reads.sub hr ⟨.rfl,.rfl,.rfl,.rfl,.rfl,.rfl,.rfl,.rfl,.rfl,.rfl,PSub.kids',trivial⟩
  ·rw[Z26,<-Zhu];dsimp only[Ex.kids];omega
 intro N
 induction N using Nat.strongRecOn with
 |_ N ih=>
  match N with
  |0=>
   intro sp fuel vs x hf hx hb;exact step 0 (fun sp fuel vs x hf hx hb=>by
    obtain rfl:fuel=0:=by omega
    simp[DataW.trod]at hx) sp fuel vs x (by omega) hx hb
  |1=>
   intro sp fuel vs x hf hx hb;exact step 0 (ih 0 (by omega)) sp fuel vs x (by omega) hx hb
  |N+2=>exact step N (ih N (by omega))
theorem Zgl(hB:BulkOk bulk)(hS:BulkSum bulk):Opens enc Tryz.prog w bulk BB 61 cEx (fun e=>sizeE e<=1048576):=
 (OpensU.all (Zs9 hB hS)).imp id (fun _=>rfl) (fun _ h=>h.2)
theorem Zsg(hB:BulkOk bulk):Opens enc Tryz.prog w bulk BB 28 cSco smallS:=
 (Opens.struct hB Tryz.underlying28 (by kernel_rfl) (.cons (size:=2) rfl (by kernel_rfl) (Zsb hB) (.cons (size:=1) rfl (by kernel_rfl) (Z2k hB) (.cons (size:=1) rfl (by kernel_rfl) (Z2k hB) .nil)))).imp (fun x=>⟨x.1,x.2.1,x.2.2.1⟩) (fun _=>rfl) (fun _ h=>⟨h.1,h.2.1,h.2.2.1⟩)
theorem Zs7(hB:BulkOk bulk):Opens enc Tryz.prog w bulk BB 109 (fun x:Evt=>[vint x.dev,vstr x.cluster,vstr x.name]) (fun _=>True):=
 (Opens.struct hB Tryz.underlying109 (by kernel_rfl) (.cons (size:=1) rfl (by kernel_rfl) op_int (.cons (size:=1) rfl (by kernel_rfl) (Z0k hB) (.cons (size:=1) rfl (by kernel_rfl) (Z0k hB) .nil)))).imp (fun x=>⟨x.1,x.2.1,x.2.2.1⟩) (fun _=>rfl) (fun _ _=>trivial)
theorem Zsj(hB:BulkOk bulk):Opens enc Tryz.prog w bulk BB 120 cTrg (fun _=>True):=
 (Opens.struct hB Tryz.underlying120 (by kernel_rfl) (.cons (size:=1) rfl (by kernel_rfl) op_int (.cons (size:=3) rfl (by kernel_rfl) (op_Key hB) (.cons (size:=3) rfl (by kernel_rfl) (Zs7 hB) (.cons (size:=1) rfl (by kernel_rfl) (Z0k hB) (.cons (size:=1) rfl (by kernel_rfl) op_int (.cons (size:=1) rfl (by kernel_rfl) op_int .nil))))))).imp
  (fun x=>⟨x.1,x.2.1,x.2.2.1,x.2.2.2.1,x.2.2.2.2.1,x.2.2.2.2.2.1⟩) (fun _=>rfl) (fun _ _=>trivial)
theorem Zsy(hB:BulkOk bulk):Opens enc Tryz.prog w bulk BB 54 (fun l:List Trg=>[roL 10 cTrg l]) smallL:=
 (Opens.slice hB Tryz.underlying54 (by kernel_rfl) (by decide) (Zsj hB)).imp id (fun _=>rfl) (fun _ h=>h.1)
theorem Zsi(hB:BulkOk bulk)(hS:BulkSum bulk):Opens enc Tryz.prog w bulk BB 79 cStp (fun x=>sizeE x.expr<=1048576):=
 (Opens.struct hB Tryz.underlying79 (by kernel_rfl) (.cons (size:=1) rfl (by kernel_rfl) op_int (.cons (size:=3) rfl (by kernel_rfl) (op_Key hB) (.cons (size:=1) rfl (by kernel_rfl) (Z0k hB) (.cons (size:=11) rfl (by kernel_rfl) (Zgl hB hS) .nil))))).imp (fun x=>⟨x.1,x.2.1,x.2.2.1,x.2.2.2.1⟩) (fun _=>rfl) (fun _ h=>h.2.2.2.1)
theorem Zsx(hB:BulkOk bulk)(hS:BulkSum bulk):Opens enc Tryz.prog w bulk BB 62 (fun l:List Stp=>[roL 16 cStp l]) (fun l=>smallL l∧∀i,i<l.length->sizeE (l.getD i default).expr<=1048576):=
 (Opens.slice hB Tryz.underlying62 (by kernel_rfl) (by decide) (Zsi hB hS)).imp id (fun _=>rfl) (fun _ h=>h)
theorem Zse(hB:BulkOk bulk)(hS:BulkSum bulk):Opens enc Tryz.prog w bulk BB 64 cRul goodRulO:=
 (Opens.struct hB Tryz.underlying64 (by kernel_rfl) (.cons (size:=1) rfl (by kernel_rfl) (Z0k hB) (.cons (size:=1) rfl (by kernel_rfl) op_int (.cons (size:=1) rfl (by kernel_rfl) (Zsy hB) (.cons (size:=11) rfl (by kernel_rfl) (Zgl hB hS) (.cons (size:=1) rfl (by kernel_rfl) (Zsx hB hS) .nil)))))).imp
  (fun x=>⟨x.1,x.2.1,x.2.2.1,x.2.2.2.1,x.2.2.2.2.1⟩) (fun _=>rfl) (fun _ h=>⟨qF h.2.2.2.1 (by decide),fun i hi=>qF (h.2.2.2.2.1.2 i hi) (by decide)⟩)
theorem Zsu(hB:BulkOk bulk)(hS:BulkSum bulk):Opens enc Tryz.prog w bulk BB 30 (fun l:List Rul=>[roL 15 cRul l]) (fun l=>smallL l∧∀i,i<l.length->goodRulO (l.getD i default)):=
 (Opens.slice hB Tryz.underlying30 (by kernel_rfl) (by decide) (Zse hB hS)).imp id (fun _=>rfl) (fun _ h=>h)
end
end Go.Abs
namespace Go.Proofs.YtipbekclhmbclaaGreatDoor
open Go.ChangeShapes Go.WideShapes Go.ChangeAt Go.RowKit Go.Abs
theorem bulkSum{H:Type}:BulkSum (Rows.uptoBulk (H:=H)):=by
 have all:∀l:List (DataW H),Rows.uptoBulkAll l=(l.map Rows.uptoBulk).sum:=by
  intro l
  induction l with
  |nil=>rfl
  |cons x r ih=>simp only[Rows.uptoBulkAll,List.map_cons,List.sum_cons,ih]
 refine⟨fun e s=>?_,fun l=>?_⟩
 ·simp only[Rows.uptoBulk,all];omega
 simp only[Rows.uptoBulk,all];omega
end Go.Proofs.YtipbekclhmbclaaGreatDoor
namespace Go.Abs
theorem idxOf_in{l:List ByteArray}{x:ByteArray}:0≤idxOf l x↔x∈l:=by
 unfold idxOf
 cases hf:l.findIdx? (· = x)with
 |none=>
  rw[List.findIdx?_eq_none_iff]at hf
  refine⟨fun h=>absurd h (by simp),fun h=>absurd (hf x h) (by simp)⟩
 |some i=>
  obtain⟨hi,h,_⟩:=List.findIdx?_eq_some_iff_getElem.1 hf
  refine⟨fun _=>?_,fun _=>by simp⟩
  have:l[i]=x:=by simpa using h
  exact this▸List.getElem_mem hi
theorem Zgd{l:List ByteArray}:∀ {m:List ByteArray},l.Nodup->(∀x∈l,x∈m)->l.length<=m.length:=by
 induction l with
 |nil=>intro m _ _;simp
 |cons a l ih=>
  intro m hn hs;obtain⟨h1,h2⟩:=List.nodup_cons.1 hn;have ha:a∈m:=hs a (by simp);have h3:=ih (m:=m.filter fun y=>decide (y≠a)) h2 (fun x hx=>List.mem_filter.2 ⟨hs x (by simp[hx]),qB fun e=>h1 (by rw[<-e];exact hx)⟩);have h4:(m.filter fun y=>decide (y≠a)).length<m.length:=List.length_filter_lt_length_iff_exists.2 ⟨a,ha,by simp⟩;simp only[qy];omega
open Go.Proofs Go.RowKit
section
variable {H:Type} {enc:TypeId×Value->H} {w:World} {bulk:DataW H->Nat}
theorem Zss(hB:BulkOk bulk):Opens enc Tryz.prog w bulk BB 35 (fun l:List Key=>[roL 3 cKey l]) smallL:=
 (Opens.slice hB Tryz.underlying35 (by kernel_rfl) (by decide) (op_Key hB)).imp id (fun _=>rfl) (fun _ h=>h.1)
theorem Zsf(hB:BulkOk bulk):Opens enc Tryz.prog w bulk BB 76 cSce (fun s=>goodItems s.items):=
 (Opens.struct hB Tryz.underlying76 (by kernel_rfl) (.cons (size:=1) rfl (by kernel_rfl) (Z0k hB) (.cons (size:=1) rfl (by kernel_rfl) (Zgm hB) .nil))).imp (fun x=>⟨x.1,x.2.1⟩) (fun _=>rfl) (fun _ h=>h.2.1)
end
open Go.Proofs
theorem Z4s{s:Sco}{l:List Rul}(h:runE s l=0):scoE s=0∧(rulesE s l).2=0:=by
 unfold runE at h
 split at h
 ·rename_i h1;exact absurd h h1
 rename_i h1;exact⟨by simpa using h1,h⟩
theorem Zrv{l:List Rul}(h:(l.map Rul.name).Nodup){a b:Rul}(ha:a∈l)(hb:b∈l)(e:a.name=b.name):a=b:=by
 induction l with
 |nil=>cases ha
 |cons x l ih=>
  rw[List.map_cons,List.nodup_cons]at h;rcases qk.1 ha with e1|h1
  ·rcases qk.1 hb with e2|h2
   ·rw[e1,e2]
   exact absurd (List.mem_map.2 ⟨b,h2,by rw[<-e,e1]⟩) h.1
  rcases qk.1 hb with e2|h2
  ·exact absurd (List.mem_map.2 ⟨a,h1,by rw[e,e2]⟩) h.1
  exact ih h.2 h1 h2
theorem Zrp{s:Sco}{sc:List Scene}{v:Vw}{h:Hap}{l:List Rul}(hn:(l.map Rul.name).Nodup){r:Rul}(hr:r∈l):r.name∈(runO s sc v h l).ran↔ranB v h r=true:=by
 show r.name∈sortS _↔_
 rw[mem_sortS,List.mem_map];constructor
 ·rintro ⟨q,hq,e⟩
  obtain⟨h1,h2⟩:=List.mem_filter.1 hq;rw[<-Zrv hn h1 hr e];exact h2
 intro h1;exact⟨r,List.mem_filter.2 ⟨hr,h1⟩,rfl⟩
theorem sub_ok{s:Sco}{l k:List Rul}(hs:k.Sublist l)(h:(rulesE s l).2=0):(rulesE s k).2=0:=by
 rw[Z2n]at h ⊢;exact⟨qF hs.length_le h.1,fun r hr=>h.2.1 r (hs.subset hr),h.2.2.sublist (hs.map _)⟩
theorem Z7h(v:Vw)(h:Hap)(l:List Rul):(ranL v h l).Sublist l:=List.filter_sublist
theorem Zt8(v:Vw)(h:Hap)(l:List Rul):ranL v h (ranL v h l)=ranL v h l:=by
 unfold ranL;rw[List.filter_filter];simp
theorem Zu2(s:Sco)(sc:List Scene)(v:Vw)(h:Hap)(l:List Rul):runO s sc v h (ranL v h l)=runO s sc v h l:=by
 unfold runO;rw[Zt8]
theorem Zug{l:List ByteArray}(h:l.Nodup):(sortS l).length=l.length:=
 Nat.le_antisymm (Z32 l) (Zgd h fun x hx=>mem_sortS.2 hx)
theorem Zt6{s:Sco}{sc:List Scene}{v:Vw}{h:Hap}{l:List Rul}(hn:(l.map Rul.name).Nodup):(runO s sc v h l).ran.length=(ranL v h l).length:=by
 show(sortS _).length=_
 rw[Zug (hn.sublist ((Z7h v h l).map _)),List.length_map]
theorem Z2i(l:List Write):(isortR ordW l).length=l.length:=Z4l l
theorem Z5y{s:Sco}{sc:List Scene}{v:Vw}{h:Hap}{l:List Rul}:shortO (runR s sc v h l):=by
 unfold runR;split
 ·rename_i he;have ok:=(Z2n s l).1 (Z4s he).2;have h40:=ok.1;have hl:=Z7i (sc:=sc) (v:=v) (h:=h) ok.2.1 l.length (qL _);have a:=hl.w;have b:=hl.m;have c:=hl.r;have d:=hl.n;rw[Zax];refine⟨?_,?_,?_,?_⟩
  ·show(isortR _ _).length<=_;rw[Z2i];omega
  ·show(isortR _ _).length<=_;rw[Z2i];omega
  ·have:=Z32 (rawK s sc v h l l.length).ran;show(sortS _).length<=_;omega
  have:=Z32 (rawK s sc v h l l.length).notes;show(sortS _).length<=_;omega
 exact⟨by decide,by decide,by decide,by decide⟩
set_option maxRecDepth 10000
section
variable {H:Type} {enc:TypeId×Value->H} {w:World} {bulk:DataW H->Nat}
theorem Zsh(hB:BulkOk bulk):Opens enc Tryz.prog w bulk BB 310 cSpn (fun _=>True):=
 (Opens.struct hB Tryz.underlying310 (by kernel_rfl) (.cons (size:=1) rfl (by kernel_rfl) op_int (.cons (size:=1) rfl (by kernel_rfl) op_int .nil))).imp (fun x=>⟨x.1,x.2.1⟩) (fun _=>rfl) (fun _ _=>trivial)
theorem Zsw(hB:BulkOk bulk):Opens enc Tryz.prog w bulk BB 103 (fun l:List Spn=>[roL 2 cSpn l]) smallL:=
 (Opens.slice hB Tryz.underlying103 (by kernel_rfl) (by decide) (Zsh hB)).imp id (fun _=>rfl) (fun _ h=>h.1)
theorem Zsd(hB:BulkOk bulk):Opens enc Tryz.prog w bulk BB 105 cMem (fun _=>True):=
 (Opens.struct hB Tryz.underlying105 (by kernel_rfl) (.cons (size:=1) rfl (by kernel_rfl) (Z0k hB) (.cons (size:=1) rfl (by kernel_rfl) op_int (.cons (size:=1) rfl (by kernel_rfl) (Zsw hB) (.cons (size:=1) rfl (by kernel_rfl) (Z2k hB) (.cons (size:=1) rfl (by kernel_rfl) Z5q .nil)))))).imp
  (fun x=>⟨x.1,x.2.1,x.2.2.1,x.2.2.2.1,x.2.2.2.2.1⟩) (fun _=>rfl) (fun _ _=>trivial)
theorem Zst(hB:BulkOk bulk):Opens enc Tryz.prog w bulk BB 32 (fun l:List Mem=>[roL 5 cMem l]) smallL:=
 (Opens.slice hB Tryz.underlying32 (by kernel_rfl) (by decide) (Zsd hB)).imp id (fun _=>rfl) (fun _ h=>h.1)
theorem Zsk(hB:BulkOk bulk):Opens enc Tryz.prog w bulk BB 34 cVw smallV2:=
 (Opens.struct hB Tryz.underlying34 (by kernel_rfl) (.cons (size:=1) rfl (by kernel_rfl) (Zgm hB) (.cons (size:=1) rfl (by kernel_rfl) (Z0k hB) (.cons (size:=1) rfl (by kernel_rfl) op_int (.cons (size:=1) rfl (by kernel_rfl) (Zst hB) .nil))))).imp
  (fun x=>⟨x.1,x.2.1,x.2.2.1,x.2.2.2.1⟩) (fun _=>rfl) (fun _ h=>⟨h.1.1,h.2.2.2.1⟩)
theorem Zs8(hB:BulkOk bulk):Opens enc Tryz.prog w bulk BB 109 cKey (fun _=>True):=
 (Opens.struct hB Tryz.underlying109 (by kernel_rfl) (.cons (size:=1) rfl (by kernel_rfl) op_int (.cons (size:=1) rfl (by kernel_rfl) (Z0k hB) (.cons (size:=1) rfl (by kernel_rfl) (Z0k hB) .nil)))).imp (fun x=>⟨x.1,x.2.1,x.2.2.1⟩) (fun _=>rfl) (fun _ _=>trivial)
theorem Zsr(hB:BulkOk bulk):Opens enc Tryz.prog w bulk BB 36 (fun l:List Key=>[roL 3 cKey l]) smallL:=
 (Opens.slice hB Tryz.underlying36 (by kernel_rfl) (by decide) (Zs8 hB)).imp id (fun _=>rfl) (fun _ h=>h.1)
theorem Zsa(hB:BulkOk bulk):Opens enc Tryz.prog w bulk BB 38 cHap smallHp:=
 (Opens.struct hB Tryz.underlying38 (by kernel_rfl) (.cons (size:=1) rfl (by kernel_rfl) (Zss hB) (.cons (size:=1) rfl (by kernel_rfl) (Zsr hB) (.cons (size:=1) rfl (by kernel_rfl) op_int (.cons (size:=1) rfl (by kernel_rfl) op_int (.cons (size:=1) rfl (by kernel_rfl) (Z0k hB) (.cons (size:=1) rfl (by kernel_rfl) Z5q (.cons (size:=1) rfl (by kernel_rfl) (Z2k hB) .nil)))))))).imp
  (fun x=>⟨x.1,x.2.1,x.2.2.1,x.2.2.2.1,x.2.2.2.2.1,x.2.2.2.2.2.1,x.2.2.2.2.2.2.1⟩) (fun _=>rfl) (fun _ h=>⟨h.1,h.2.1,h.2.2.2.2.2.2.1⟩)
theorem Zsv(hB:BulkOk bulk):Opens enc Tryz.prog w bulk BB 29 (fun l:List Scene=>[roL 2 cSce l]) smallSc:=
 (Opens.slice hB Tryz.underlying29 (by kernel_rfl) (by decide) (Zsf hB)).imp id (fun _=>rfl) (fun _ h=>⟨h.1,fun i hi=>(h.2 i hi).1⟩)
theorem Zz0(hB:BulkOk bulk)(hS:BulkSum bulk):Opens enc Tryz.prog w bulk BB 40 cRuC smallRuC:=
 (Opens.struct hB Tryz.underlying40 (by kernel_rfl) (.cons (size:=4) rfl (by kernel_rfl) (Zsg hB) (.cons (size:=1) rfl (by kernel_rfl) (Zsv hB) (.cons (size:=1) rfl (by kernel_rfl) (Zsu hB hS) (.cons (size:=4) rfl (by kernel_rfl) (Zsk hB) (.cons (size:=7) rfl (by kernel_rfl) (Zsa hB) .nil)))))).imp
  (fun x=>⟨x.1,x.2.1,x.2.2.1,x.2.2.2.1,x.2.2.2.2.1⟩) (fun _=>rfl) (fun _ h=>⟨h.1,h.2.1,h.2.2.1,h.2.2.2.1,h.2.2.2.2.1⟩)
end
def ruleH(r:Rul):Bool:=decide (12<r.on.length)||decide (12<r.steps.length)||decide (300<sizeE r.cond)||anyN r.steps.length fun i=>decide (300<sizeE (r.steps.getD i default).expr)
def bigC(c:RuC):Bool:=decide (100<c.s.home.clusters.length∨30<c.s.home.devices.length∨30<c.s.modes.length∨300<c.s.scenes.length∨20<c.sc.length∨20<c.l.length∨100<c.v.items.length∨30<c.v.members.length∨50<c.h.changed.length∨50<c.h.events.length∨50<c.h.held.length)
def greatR(c:RuC):Bool:=bigC c ||(anyN c.sc.length fun i=>decide (60<(c.sc.getD i default).items.length))||anyN c.l.length fun i=>ruleH (c.l.getD i default)
set_option maxHeartbeats 4000000 in
theorem Z50(c:RuC)(hc:smallRuC c):AC Tryz.prog 9 [.pv (.agg (cRuC c))] [] (.pv (vbool (greatR c))) []:=by
 have hbig:bigC c=true->greatR c=true:=fun h=>by unfold greatR;rw[h];rfl
 unfold bigC at hbig;rw[Q0]at hbig;have hl:=hc.l.2;refine AC.of_awp (T:=T) T_ok hm Tryz.call9 Tryz.func9 rfl rfl rfl ?_
 conv=>whnf
 repeat(any_goals((first|refine⟨QT ?_,QF ?_⟩<;>intro h<;>(try simp only[Q0,Q1,Q2,Q3,Q4,Q5,Q6,Q7,Q8,reduceCtorEq]at h))<;>conv=>whnf))
 all_goals first
  |(exact PSub.lit_sb (hbig (by omega)).symm)
  |skip
 have hb:bigC c=false:=qG (by omega);have hcut:greatR c=((anyN c.sc.length fun i=>decide (60<(c.sc.getD i default).items.length))||anyN c.l.length fun i=>ruleH (c.l.getD i default)):=by
  unfold greatR;rw[hb,Bool.false_or]
 rw[hcut];clear hcut hb hbig;refine loop_k (ι:=Nat) [1] [1] (fun k=>k<=c.sc.length∧(∀j,j<k->decide (60<(c.sc.getD j default).items.length)=false)) (fun k=>c.sc.length-k) 0 (fun k=>[(3,.pv (vint k))]) (fun _=>[]) [] ⟨qe _,fun j h=>absurd h (by omega)⟩ ?_ (fun k hk=>?_)
 ·exact QD
 obtain⟨hkn,hinv⟩:=hk
 conv=>whnf
 repeat(any_goals((first|refine⟨QT ?_,QF ?_⟩<;>intro h<;>(try simp only[Q0,Q1,Q2,Q3,Q4,Q5,Q6,Q7,Q8,reduceCtorEq]at h)|refine QI ?_|refine .inl ⟨wrap64 (by omega),?_⟩)<;>conv=>whnf))
 ·refine PSub.lit_sb ?_;rw[Z0a (k:=k) (by omega) (qB (by omega)),Bool.true_or]
 ·refine⟨k+1,[],⟨by omega,?_⟩,by first|omega|(dsimp only;omega),?_⟩;rotate_left
  ·exact QD
  intro j hj
  by_cases e:j=k
  ·subst e;exact qG (by omega)
  exact hinv j (by omega)
 have hn0:(anyN c.sc.length fun i=>decide (60<(c.sc.getD i default).items.length))=false:=Z0d fun j hj=>hinv j (by omega)
 rw[hn0,Bool.false_or];clear hinv hn0;refine loop_k (ι:=Nat) [1] [1] (fun k=>k<=c.l.length∧(∀j,j<k->ruleH (c.l.getD j default)=false)) (fun k=>c.l.length-k) 0 (fun k=>[(4,.pv (vint k))]) (fun _=>[]) [] ⟨qe _,fun j h=>absurd h (by omega)⟩ ?_ (fun k hk=>?_)
 ·exact QD
 obtain⟨hkn,hinv⟩:=hk
 conv=>whnf
 refine⟨fun h=>?_,fun h=>?_⟩<;>(try simp only[Q0,Q1,Q2,Q3,Q4,Q5,Q6,Q7,Q8,reduceCtorEq]at h)<;>(conv=>whnf)
 ·have hg:=hl k (by omega)
  repeat(any_goals((first|refine⟨QT ?_,QF ?_⟩<;>intro h<;>(try simp only[Q0,Q1,Q2,Q3,Q4,Q5,Q6,Q7,Q8,reduceCtorEq]at h)|refine .inl ⟨_,Z8d (c.l.getD k default).cond hg.1,?_⟩|refine QI ?_)<;>conv=>whnf))
  ·exact PSub.lit_sb (Z0a (k:=k) (by omega) (by unfold ruleH;rw[qB (show 12<(c.l.getD k default).on.length by omega)];rfl)).symm
  ·exact PSub.lit_sb (Z0a (k:=k) (by omega) (by unfold ruleH;rw[qB (show 12<(c.l.getD k default).steps.length by omega),Bool.or_true];rfl)).symm
  ·exact PSub.lit_sb (Z0a (k:=k) (by omega) (by unfold ruleH;rw[qB (show 300<sizeE (c.l.getD k default).cond by omega),Bool.or_true];rfl)).symm
  have hrg:ruleH (c.l.getD k default)=anyN (c.l.getD k default).steps.length fun i=>decide (300<sizeE ((c.l.getD k default).steps.getD i default).expr):=by
   unfold ruleH;rw[qG (by omega),qG (by omega),qG (by omega)];rfl
  have hinv0:=hinv;have hkn0:=hkn;refine loop_k (ι:=Nat) [1,4,5] [1,5] (fun q=>q<=(c.l.getD k default).steps.length∧∀j,j<q->decide (300<sizeE ((c.l.getD k default).steps.getD j default).expr)=false) (fun q=>(c.l.getD k default).steps.length-q) 0 (fun q=>[(6,.pv (vint q))]) (fun _=>[]) [] ⟨qe _,fun j h=>absurd h (by omega)⟩ ?_ (fun q hk=>?_)
  ·exact QD
  obtain⟨hkn,hinv⟩:=hk
  conv=>whnf
  refine⟨fun h=>?_,fun h=>?_⟩<;>(try simp only[Q0,Q1,Q2,Q3,Q4,Q5,Q6,Q7,Q8,reduceCtorEq]at h)<;>(conv=>whnf)
  ·have hg2:=hg.2 q (by omega)
   repeat(any_goals((first|refine⟨QT ?_,QF ?_⟩<;>intro h<;>(try simp only[Q0,Q1,Q2,Q3,Q4,Q5,Q6,Q7,Q8,reduceCtorEq]at h)|refine .inl ⟨_,Z8d ((c.l.getD k default).steps.getD q default).expr hg2,?_⟩|refine QI ?_|refine .inl ⟨wrap64 (by omega),?_⟩)<;>conv=>whnf))
   ·exact PSub.lit_sb (Z0a (k:=k) (by omega) (by rw[hrg];exact Z0a (k:=q) (by omega) (qB (by omega)))).symm
   refine⟨q+1,[],⟨by omega,?_⟩,by first|omega|(dsimp only;omega),?_⟩;rotate_left
   ·exact QD
   intro j hj
   by_cases e:j=q
   ·subst e;exact qG (by omega)
   exact hinv j (by omega)
  repeat(any_goals((first|refine .inl ⟨wrap64 (by omega),?_⟩)<;>conv=>whnf))
  refine⟨k+1,[],⟨by omega,?_⟩,by first|omega|(dsimp only;omega),?_⟩;rotate_left
  ·exact QD
  intro j hj
  by_cases e:j=k
  ·subst e;rw[hrg];exact Z0d fun i hi=>hinv i (by omega)
  exact hinv0 j (by omega)
 exact PSub.lit_sb (Z0d fun j hj=>hinv j (by omega)).symm
theorem Zpn{α:Type}[Inhabited α](p:α->Bool){l:List α}{k:Nat}(h:k<l.length):(l.take (k+1)).filter p=(l.take k).filter p++if p (l.getD k default)=true then [l.getD k default]else []:=by
 rw[Z09 h,List.filter_append];congr 1
 by_cases e:p (l.getD k default)=true
 ·rw[qK e];simp only[List.filter_cons,List.filter_nil,qK e]
 rw[qJ e];simp only[List.filter_cons,List.filter_nil,qJ e]
theorem Zpm{α:Type}(p:α->Bool)(l:List α)(k:Nat):((l.take k).filter p).length<=k:=qF (List.length_filter_le _ _) (by rw[qq];omega)
theorem Zxg(c:RuC)(hc:smallRuC c):AC Tryz.prog 6 [.pv (.agg (cRuC c))] [] (.pv (vbool true)) []:=by
 have r1:=Z2a c.s c.sc c.v c.h c.l hc.s hc.sc.1 hc.sc.2 hc.v hc.h;have r3:=Z2a c.s c.sc c.v c.h (ranL c.v c.h c.l) hc.s hc.sc.1 hc.sc.2 hc.v hc.h;have hll:c.l.length<=1048576:=hc.l.1;have hsh:=Z5y (s:=c.s) (sc:=c.sc) (v:=c.v) (h:=c.h) (l:=c.l);have hno:¬runE c.s c.l=0->runR c.s c.sc c.v c.h c.l=noOut:=fun h=>qJ h
 have hok:runE c.s c.l=0->runR c.s c.sc c.v c.h (ranL c.v c.h c.l)=runR c.s c.sc c.v c.h c.l∧runE c.s (ranL c.v c.h c.l)=0∧(ranL c.v c.h c.l).length=(runR c.s c.sc c.v c.h c.l).ran.length∧ranL c.v c.h c.l=c.l.filter (fun r=>decide (0<=idxOf (runR c.s c.sc c.v c.h c.l).ran r.name)):=fun h=>by
  obtain⟨p1,p2⟩:=Z4s h;have hn:=((Z2n c.s c.l).1 p2).2.2;have h2:=Z5x p1 (sub_ok (Z7h c.v c.h c.l) p2);have e1:runR c.s c.sc c.v c.h c.l=runO c.s c.sc c.v c.h c.l:=qK h;have e2:runR c.s c.sc c.v c.h (ranL c.v c.h c.l)=runO c.s c.sc c.v c.h (ranL c.v c.h c.l):=qK h2;rw[e1,e2,Zu2];refine⟨rfl,h2,(Zt6 hn).symm,?_⟩;unfold ranL;refine List.filter_congr fun r hr=>?_
  rw[qt,Q0,idxOf_in,Zrp hn hr]
 have r2:=Z54 (runR c.s c.sc c.v c.h c.l) (runR c.s c.sc c.v c.h c.l) Z5y;have r0:=Z54 noOut noOut ⟨by decide,by decide,by decide,by decide⟩;generalize runR c.s c.sc c.v c.h c.l=o at *;generalize runR c.s c.sc c.v c.h (ranL c.v c.h c.l)=o2 at *;generalize runE c.s c.l=e at *;generalize runE c.s (ranL c.v c.h c.l)=e2 at *;generalize ranL c.v c.h c.l=L at *;have hlr:=hsh.r;refine AC.of_awp (T:=T) T_ok hm Tryz.call6 Tryz.func6 rfl rfl rfl ?_
 conv=>whnf
 repeat(any_goals((first|refine⟨QT ?_,QF ?_⟩<;>intro h<;>(try simp only[Q0,Q1,Q2,Q3,Q4,Q5,Q6,Q7,Q8,reduceCtorEq]at h)|refine .inl ⟨_,Z50 c hc,?_⟩|refine .inl ⟨_,Z2w,?_⟩|refine .inl ⟨_,r1,?_⟩|refine .inl ⟨_,AC.sub2 r0 (by rw[hno (by assumption)];exact PSub.rfl) (by repeat'(first|exact PSub.rfl|exact PSub.nil_ro _ _|refine PSub.agg ?_|exact trivial|refine qa ?_ ?_)),?_⟩)<;>conv=>whnf))
 ·exact PSub.rfl
 ·exact PSub.rfl
 ·exact absurd trivial h
 obtain⟨h1,h2,h3,h4⟩:=hok h;rw[h1,h2]at r3;have hfn:=fun k=>Zpm (fun r:Rul=>decide (0<=idxOf o.ran r.name)) c.l k
 have hfs:=fun k hk=>Zpn (fun r:Rul=>decide (0<=idxOf o.ran r.name)) (l:=c.l) (k:=k) hk
 have hall:(c.l.take c.l.length).filter (fun r:Rul=>decide (0<=idxOf o.ran r.name))=L:=by rw[List.take_length,h4]
 generalize hF:(fun k=>(c.l.take k).filter (fun r:Rul=>decide (0<=idxOf o.ran r.name)))=F;replace hF:∀k,(c.l.take k).filter (fun r:Rul=>decide (0<=idxOf o.ran r.name))=F k:=fun k=>congrFun hF k
 simp only[hF]at hfn hfs hall;have hF0:F 0 = []:=by rw[<-hF];rfl
 clear hF h4 hok hno;generalize hn:c.l.length=n at *;have hdz:decide (0<n)=true↔0<n:=decide_eq_true_iff;refine loop_k (ι:=Bool×Nat) [1,3] [1,3] (fun y=>y.2<=n∧(y.1=true↔y.2<n)) (fun y=>n-y.2) (decide (0<n),0) (fun y=>match y.1 with
   |true=>[(5,.own 500),(6,.pv (vint y.2))]
   |false=>[(5,.pv (roL 15 cRul L)),(6,.pv (vint y.2))])
  (fun y=>match y.1 with
   |true=>[(500,rowL 15 cRul (F y.2))]
   |false=>[]) [] ⟨qe _,hdz⟩ ?_ (fun y hk=>?_)
 ·by_cases hz:0<n
  ·rw[show decide (0<n)=true from decide_eq_true hz];dsimp only;rw[hF0];(repeat'(first|exact QC|refine And.intro ?_ ?_))
   all_goals(intro j hj;exact absurd hj (by simp))
  ·rw[show decide (0<n)=false from decide_eq_false hz];dsimp only;have hn0:n=0:=by omega
   rw[<-hall,hn0,hF0];(repeat'(first|exact QC|refine qa ?_ ?_))
   all_goals exact PSub.nilL rfl
 obtain⟨b,k⟩:=y;obtain⟨hqn,hb⟩:=hk;dsimp only at hqn hb;cases b with
 |true=>
  have hk2:k<n:=hb.1 rfl;have hbl:=hfn k;have hbs:=hfs k hk2;dsimp only
  conv=>whnf
  refine⟨fun h=>?_,fun h=>absurd (of_decide_eq_false h) (by omega)⟩
  conv=>whnf
  repeat(any_goals((first|refine⟨QT ?_,QF ?_⟩<;>intro h<;>(try simp only[Q0,Q1,Q2,Q3,Q4,Q5,Q6,Q7,Q8,reduceCtorEq]at h)|refine .inl ⟨_,Z1a o.ran (c.l.getD k default).name hlr,?_⟩|refine QI ?_|refine QK ?_|refine .inl ⟨wrap64 (by omega),?_⟩)<;>conv=>whnf))
  ·rw[qK (qB h)]at hbs
   by_cases hlast:k+1<n
   ·refine⟨(true,k+1),[(500,58)],⟨by dsimp only;omega,by simp;omega⟩,by dsimp only;omega,?_⟩;dsimp only;rw[hbs];(repeat'(first|exact QC|refine And.intro ?_ ?_))
    all_goals first
     |(simp;done)
     |skip
    all_goals
     refine Z05 (fun i hi=>by simp only[qK hi];exact PSubs.rfl) (by simp only[qJ (qM _),Nat.sub_self];exact PSubs.rfl)
   ·have hn1:n=k+1:=by omega
    refine⟨(false,k+1),[],⟨by dsimp only;omega,by simp;omega⟩,by dsimp only;omega,?_⟩;dsimp only;rw[<-hall,hn1,hbs];(repeat'(first|exact QC|refine And.intro ?_ ?_))
    all_goals
     conv=>whnf
     refine PSub.ro (by simp) (fun i hi=>?_);revert i;rw[show(F k).length+1=(F k ++ [_]).length from by simp];refine Z05 (fun i hi=>by simp only[qK hi];exact PSubs.rfl) (by simp only[qJ (qM _),Nat.sub_self];exact PSubs.rfl)
  ·rw[qJ (by rw[Q0];exact h),List.append_nil]at hbs
   by_cases hlast:k+1<n
   ·refine⟨(true,k+1),[],⟨by dsimp only;omega,by simp;omega⟩,by dsimp only;omega,?_⟩;dsimp only;rw[hbs];(repeat'(first|exact QC|refine And.intro ?_ ?_))
    all_goals(intro j hj;exact PSubs.rfl)
   ·have hn1:n=k+1:=by omega
    refine⟨(false,k+1),[],⟨by dsimp only;omega,by simp;omega⟩,by dsimp only;omega,?_⟩;dsimp only;rw[<-hall,hn1,hbs];(repeat'(first|exact QC|refine And.intro ?_ ?_))
    all_goals(intro j hj;exact PSubs.rfl)
 |false=>
  have hq:k=n:=by
   have:¬k<n:=fun h=>by have:=hb.2 h;cases this
   omega
  dsimp only
  conv=>whnf
  refine⟨fun h=>absurd (qC h) (by omega),fun h=>?_⟩
  conv=>whnf
  repeat(any_goals((first|refine⟨QT ?_,QF ?_⟩<;>intro h<;>(try simp only[Q0,Q1,Q2,Q3,Q4,Q5,Q6,Q7,Q8,reduceCtorEq]at h)|refine .inl ⟨_,r3,?_⟩|refine .inl ⟨_,r2,?_⟩|refine .inl ⟨_,Z2w,?_⟩)<;>conv=>whnf))
  all_goals first
   |exact PSub.rfl
   |exact PSub.sb (qB rfl)
   |exact PSub.lit_sb rfl
   |(exfalso;exact h rfl)
   |(exfalso;exact h trivial)
   |(exfalso;omega)
end Go.Abs
