/- YtipbekclhmbclaaGreatDoorY00: walks and contracts. -/
import Derived.Test.YtipbekclhmbclaaGreatDoorX09
import Derived.Laws.RangeString
import Derived.Shelf.SlSortCmp.Insertion

set_option linter.unusedVariables false
set_option linter.unusedSimpArgs false
set_option linter.unusedSectionVars false

namespace Go.Abs
open Go.Proofs
theorem Z1a(l:List ByteArray)(x:ByteArray)(hl:l.length<=1048576):AC Tryz.prog 18 [.pv (roL 1 cstr l),.pv (vstr x)] [] (.pv (vint (idxOf l x))) []:=by
 refine AC.of_awp (T:=T) T_ok hm Tryz.call18 Tryz.func18 rfl rfl rfl ?_
 conv=>whnf
 refine⟨Nat,fun k=>k<=l.length∧∀j,j<k->l.getD j default≠x,fun k=>⟨[(0,.pv (roL 1 cstr l)),(1,.pv (vstr x)),(5,.pv (vint k))],[]⟩,fun k=>l.length-k,0,[],⟨qe _,fun j h=>absurd h (by omega)⟩,⟨.rfl,.rfl,.rfl⟩,fun k hk=>?_⟩
 conv=>whnf
 refine⟨fun h=>?_,fun h=>?_⟩
 ·simp only[Q0]at h;refine⟨by omega,?_⟩
  conv=>whnf
  refine⟨fun h2=>?_,fun h2=>?_⟩
  ·conv=>whnf
   simp only[Q0]at h2;exact PSub.int (by rw[Z4i (k:=k) (by omega) (by simpa using h2) hk.2])
  conv=>whnf
  refine .inl ⟨wrap64 (by omega),?_⟩
  conv=>whnf
  simp only[decide_eq_false_iff_not]at h2;refine⟨k+1,[],⟨by omega,fun j hj=>?_⟩,by dsimp only;omega,.rfl,.rfl,.rfl⟩
  by_cases e:j=k
  ·subst e;simpa using h2
  exact hk.2 j (by omega)
 conv=>whnf
 simp only[Q1]at h;exact PSub.int (by rw[Zew fun j hj=>hk.2 j (by omega)])
open Go.Proofs Go.RowKit
set_option maxRecDepth 10000
section
variable {H:Type} {enc:TypeId×Value->H} {w:World} {bulk:DataW H->Nat}
theorem Zsz:Opens enc Tryz.prog w bulk BB 124 (fun n:Int=>[.val (.int .u64 n)]) (fun _=>True):=(Opens.int Tryz.underlying124).imp id (fun _=>rfl) (fun _ _=>trivial)
theorem Z5q:Opens enc Tryz.prog w bulk BB 4 (fun b:Bool=>[vbool b]) (fun _=>True):=Opens.bool Tryz.underlying4
def goodItem(x:Item):Prop:=goodKey x.key∧goodVal x.value∧inI64 x.version
theorem Zsc(hB:BulkOk bulk):Opens enc Tryz.prog w bulk BB 107 cItem goodItem:=
 (Opens.struct hB Tryz.underlying107 (by kernel_rfl) (.cons (size:=3) rfl (by kernel_rfl) (op_Key hB) (.cons (size:=3) rfl (by kernel_rfl) (Zae hB) (.cons (size:=1) rfl (by kernel_rfl) op_int .nil)))).imp (fun x=>⟨x.1,x.2.1,x.2.2.1⟩) (fun _=>rfl) (fun _ h=>⟨h.1,h.2.1,h.2.2.1⟩)
def goodItems(l:List Item):Prop:=smallL l∧∀i,i<l.length->goodItem (l.getD i default)
theorem Zgm(hB:BulkOk bulk):Opens enc Tryz.prog w bulk BB 31 (fun l:List Item=>[roL 7 cItem l]) goodItems:=
 (Opens.slice hB Tryz.underlying31 (by kernel_rfl) (by decide) (Zsc hB)).imp id (fun _=>rfl) (fun _ h=>h)
theorem Zgk(hB:BulkOk bulk):Opens enc Tryz.prog w bulk BB 70 cAttr smallA:=
 (Opens.struct hB Tryz.underlying70 (by kernel_rfl) (.cons (size:=1) rfl (by kernel_rfl) (Z0k hB) (.cons (size:=1) rfl (by kernel_rfl) op_int (.cons (size:=1) rfl (by kernel_rfl) op_int (.cons (size:=1) rfl (by kernel_rfl) op_int (.cons (size:=1) rfl (by kernel_rfl) (Z2k hB) (.cons (size:=1) rfl (by kernel_rfl) Z5q (.cons (size:=1) rfl (by kernel_rfl) Z5q .nil)))))))).imp
  (fun x=>⟨x.1,x.2.1,x.2.2.1,x.2.2.2.1,x.2.2.2.2.1,x.2.2.2.2.2.1,x.2.2.2.2.2.2.1⟩) (fun _=>rfl) (fun _ h=>h.2.2.2.2.1)
theorem Z73{α:Type}[Inhabited α]{l:List α}{p:α->Prop}(h:∀i,i<l.length->p (l.getD i default))(hd:p default)(i:Nat):p (l.getD i default):=by
 by_cases hi:i<l.length
 ·exact h i hi
 have:l.getD i default=default:=by simp[List.getD,Nat.le_of_not_lt hi]
 rw[this];exact hd
theorem Zsm(hB:BulkOk bulk):Opens enc Tryz.prog w bulk BB 110 (fun l:List Attr=>[roL 7 cAttr l]) (fun l=>smallL l∧∀i,smallA (l.getD i default)):=
 (Opens.slice hB Tryz.underlying110 (by kernel_rfl) (by decide) (Zgk hB)).imp id (fun _=>rfl) (fun _ h=>⟨h.1,Z73 h.2 (qe _)⟩)
theorem Zs6(hB:BulkOk bulk):Opens enc Tryz.prog w bulk BB 160 cEff (fun _=>True):=
 (Opens.struct hB Tryz.underlying160 (by kernel_rfl) (.cons (size:=1) rfl (by kernel_rfl) op_int (.cons (size:=1) rfl (by kernel_rfl) (Z0k hB) (.cons (size:=1) rfl (by kernel_rfl) op_int .nil)))).imp (fun x=>⟨x.1,x.2.1,x.2.2.1⟩) (fun _=>rfl) (fun _ _=>trivial)
theorem Zsq(hB:BulkOk bulk):Opens enc Tryz.prog w bulk BB 155 (fun l:List Eff=>[roL 3 cEff l]) smallL:=
 (Opens.slice hB Tryz.underlying155 (by kernel_rfl) (by decide) (Zs6 hB)).imp id (fun _=>rfl) (fun _ h=>h.1)
theorem Zs4(hB:BulkOk bulk):Opens enc Tryz.prog w bulk BB 157 cCmd smallC:=
 (Opens.struct hB Tryz.underlying157 (by kernel_rfl) (.cons (size:=1) rfl (by kernel_rfl) (Z0k hB) (.cons (size:=7) rfl (by kernel_rfl) (Zgk hB) (.cons (size:=1) rfl (by kernel_rfl) (Zsq hB) .nil)))).imp (fun x=>⟨x.1,x.2.1,x.2.2.1⟩) (fun _=>rfl) (fun _ h=>⟨h.2.1,h.2.2.1⟩)
theorem Zso(hB:BulkOk bulk):Opens enc Tryz.prog w bulk BB 111 (fun l:List Cmd=>[roL 9 cCmd l]) (fun l=>smallL l∧∀i,smallC (l.getD i default)):=
 (Opens.slice hB Tryz.underlying111 (by kernel_rfl) (by decide) (Zs4 hB)).imp id (fun _=>rfl) (fun _ h=>⟨h.1,Z73 h.2 ⟨qe _,qe _⟩⟩)
theorem Zs3(hB:BulkOk bulk):Opens enc Tryz.prog w bulk BB 113 cClu smallK:=
 (Opens.struct hB Tryz.underlying113 (by kernel_rfl) (.cons (size:=1) rfl (by kernel_rfl) (Z0k hB) (.cons (size:=1) rfl (by kernel_rfl) (Zsm hB) (.cons (size:=1) rfl (by kernel_rfl) (Zso hB) (.cons (size:=1) rfl (by kernel_rfl) (Z2k hB) .nil))))).imp (fun x=>⟨x.1,x.2.1,x.2.2.1,x.2.2.2.1⟩) (fun _=>rfl) (fun _ h=>⟨h.2.1.1,h.2.1.2,h.2.2.1.1,h.2.2.1.2,h.2.2.2.1⟩)
theorem Zue:smallK default:=⟨qe _,fun _=>qe _,qe _,fun _=>⟨qe _,qe _⟩,qe _⟩
theorem Zsn(hB:BulkOk bulk):Opens enc Tryz.prog w bulk BB 22 (fun l:List Clu=>[roL 4 cClu l]) smallKs:=
 (Opens.slice hB Tryz.underlying22 (by kernel_rfl) (by decide) (Zs3 hB)).imp id (fun _=>rfl) (fun _ h=>⟨h.1,Z73 h.2 Zue⟩)
theorem Zs5(hB:BulkOk bulk):Opens enc Tryz.prog w bulk BB 126 cDev smallD:=
 (Opens.struct hB Tryz.underlying126 (by kernel_rfl) (.cons (size:=1) rfl (by kernel_rfl) op_int (.cons (size:=1) rfl (by kernel_rfl) Zsz (.cons (size:=1) rfl (by kernel_rfl) op_int (.cons (size:=1) rfl (by kernel_rfl) Z5q (.cons (size:=1) rfl (by kernel_rfl) op_int (.cons (size:=1) rfl (by kernel_rfl) (Z0k hB) (.cons (size:=1) rfl (by kernel_rfl) (Z2k hB) .nil)))))))).imp
  (fun x=>⟨x.1,x.2.1,x.2.2.1,x.2.2.2.1,x.2.2.2.2.1,x.2.2.2.2.2.1,x.2.2.2.2.2.2.1⟩) (fun _=>rfl) (fun _ h=>⟨h.2.2.2.2.2.2.1,h.1.1,h.1.2⟩)
theorem Zsp(hB:BulkOk bulk):Opens enc Tryz.prog w bulk BB 23 (fun l:List Dev=>[roL 7 cDev l]) (fun l=>smallL l∧∀i,smallD (l.getD i default)):=
 (Opens.slice hB Tryz.underlying23 (by kernel_rfl) (by decide) (Zs5 hB)).imp id (fun _=>rfl) (fun _ h=>⟨h.1,Z73 h.2 ⟨qe _,by decide,by decide⟩⟩)
theorem Zsb(hB:BulkOk bulk):Opens enc Tryz.prog w bulk BB 25 cHom smallH:=
 (Opens.struct hB Tryz.underlying25 (by kernel_rfl) (.cons (size:=1) rfl (by kernel_rfl) (Zsn hB) (.cons (size:=1) rfl (by kernel_rfl) (Zsp hB) .nil))).imp (fun x=>⟨x.1,x.2.1⟩) (fun _=>rfl) (fun _ h=>⟨h.1,h.2.1.1,h.2.1.2⟩)
end
variable [Globals]
namespace Ex
end Ex
theorem Zhv:∀(l:List Ex) (k:Nat),k<l.length->sizeL (l.take (k+1))=sizeL (l.take k)+sizeE (l.getD k default)
 |e::l,0,_=>by simp[sizeL]
 |e::l,k+1,h=>by
  have:=Zhv l k (by simpa using h);simp only[List.take_succ_cons,sizeL,this,List.getD_cons_succ];omega
theorem Zht{l:List Ex}{e:Ex}(h:e∈l):sizeE e<=sizeL l:=by
 induction l with
 |nil=>simp at h
 |cons x l ih=>
  rw[sizeL];rcases qk.1 h with rfl|h
  ·omega
  have:=ih h;omega
theorem Zud{l:List Ex}:l.length<=sizeL l:=by
 induction l with
 |nil=>simp
 |cons x l ih=>rw[sizeL,Z26];simp;omega
theorem Zhs{l:List Ex}{k:Nat}:sizeL (l.take k)<=sizeL l:=by
 induction l generalizing k with
 |nil=>simp
 |cons x l ih=>
  cases k with
  |zero=>simp[sizeL]
  |succ k=>have:=@ih k;simp only[List.take_succ_cons,sizeL];omega
end Go.Abs
namespace Go.Abs
open Go.Proofs
set_option maxRecDepth 10000
theorem Za2{a b:Key}(h:keyLess a b=true):keyLess b a=false:=by
 rw[<-Bool.not_eq_true];intro k;have:=Z3h h k;rw[Z15]at this;cases this
theorem Z8d(e:Ex)(he:sizeE e<=1073741824):AC Tryz.prog 22 [.pv (.agg (cEx e))] [] (.pv (vint (sizeE e))) []:=by
 have hsz:=Z26 e;have hkl:=Zud (l:=e.kids);have ih:∀k,k<e.kids.length->AC Tryz.prog 22 [.pv (.agg (cEx (e.kids.getD k default)))] [] (.pv (vint (sizeE (e.kids.getD k default)))) []:=fun k hk=>
  have:=Ex.kid_lt (Ex.kid_at hk)
  Z8d (e.kids.getD k default) (by have:=Zht (Ex.kid_at hk);omega)
 refine AC.ex ?_;refine AC.of_awp (T:=T) T_ok hm Tryz.call22 Tryz.func22 rfl rfl rfl ?_
 conv=>whnf
 refine loop_k (ι:=Nat) [1] [1] (fun k=>k<=e.kids.length∧True) (fun k=>e.kids.length-k) 0 (fun k=>[(3,.pv (vint (1+sizeL (e.kids.take k)))),(4,.pv (vint k))]) (fun _=>[]) [] ⟨qe _,trivial⟩ ?_ (fun k hk=>?_)
 ·exact QD
 obtain⟨hkn,-⟩:=hk
 conv=>whnf
 have hle:=Zhs (l:=e.kids) (k:=k)
 repeat(any_goals((first|refine⟨QT ?_,QF ?_⟩<;>intro h<;>(try simp only[Q0,Q1,Q2,Q3,Q4,Q5,Q6,Q7,Q8,reduceCtorEq]at h)|refine .inl ⟨_,ih k (by omega),?_⟩|refine QI ?_)<;>conv=>whnf))
 ·have h1:k<e.kids.length:=by omega
  have hst:=Zhv e.kids k h1;have hmem:=Zhs (l:=e.kids) (k:=k+1);refine .inl ⟨wrap64 (by omega),?_⟩
  conv=>whnf
  refine .inl ⟨wrap64 (by omega),?_⟩
  conv=>whnf
  refine⟨k+1,[],⟨by omega,trivial⟩,by first|omega|(dsimp only;omega),?_⟩;(repeat'(first|exact QC|refine And.intro ?_ ?_));refine PSub.int ?_;omega
 refine PSub.int ?_;rw[List.take_of_length_le (by omega)];omega
termination_by SizeOf.sizeOf e
open Go.RowKit
section
variable {H:Type} (enc:TypeId×Value->H) (P:Program) (w:World) (bulk:DataW H->Nat) (B:Nat)
end
section
variable {H:Type} {enc:TypeId×Value->H} {P:Program} {w:World} {bulk:DataW H->Nat} {B:Nat}
theorem Opens.toU{t:TypeId}{α:Type}{cs:α->List PV}{good:α->Prop}{N:Nat}(h:Opens enc P w bulk B t cs good):OpensU enc P w bulk B N t cs good (fun _=>0):=by
 intro sp fuel vs x _ hx hb;obtain⟨a,h1,h2⟩:=h sp fuel vs x hx hb;exact⟨a,h1,qe _,h2⟩
end
open Go.Proofs Go.RowKit
section
variable {H:Type} {enc:TypeId×Value->H} {w:World} {bulk:DataW H->Nat}
theorem Zhu:∀l:List Ex,(l.map sizeE).sum=sizeL l
 | []=>rfl
 |e::l=>by rw[List.map_cons,List.sum_cons,sizeL,Zhu l]
theorem Zs9(hB:BulkOk bulk)(hS:BulkSum bulk):∀N,OpensU enc Tryz.prog w bulk BB N 61 cEx (fun _=>True) sizeE:=by
 have step:∀N,OpensU enc Tryz.prog w bulk BB N 61 cEx (fun _=>True) sizeE->OpensU enc Tryz.prog w bulk BB (N+1+1) 61 cEx (fun _=>True) sizeE:=by
  intro N ih;have hk:=OpensU.slice hB hS (t:=59) Tryz.underlying59 (size:=11) (by kernel_rfl) (by decide) ih;refine(OpensU.struct hB hS Tryz.underlying61 (by kernel_rfl) (.cons (size:=1) rfl (by kernel_rfl) op_int.toU (.cons (size:=1) rfl (by kernel_rfl) op_int.toU (.cons (size:=1) rfl (by kernel_rfl) op_int.toU (.cons (size:=1) rfl (by kernel_rfl) (Z0k hB).toU
   (.cons (size:=3) rfl (by kernel_rfl) (Zae hB).toU (.cons (size:=3) rfl (by kernel_rfl) (op_Key hB).toU (.cons (size:=1) rfl (by kernel_rfl) hk .nil)))))))).imp (fun x=>.mk x.1 x.2.1 x.2.2.1 x.2.2.2.1 x.2.2.2.2.1 x.2.2.2.2.2.1 x.2.2.2.2.2.2.1) (fun a _ vs hr=>?_) (fun _ _=>trivial) (fun a=>?_)
  ·exact Reads.sub hr ⟨.rfl,.rfl,.rfl,.rfl,.rfl,.rfl,.rfl,.rfl,.rfl,.rfl,PSub.kids',trivial⟩
  ·rw[Z26,<-Zhu];dsimp only[Ex.kids];omega
 intro N
 induction N using Nat.strongRecOn with
 |_ N ih=>
  match N with
  |0=>
   intro sp fuel vs x hf hx hb;exact step 0 (fun sp fuel vs x hf hx hb=>by
    obtain rfl:fuel=0:=by omega
    simp[DataW.trod]at hx) sp fuel vs x (by omega) hx hb
  |1=>
   intro sp fuel vs x hf hx hb;exact step 0 (ih 0 (by omega)) sp fuel vs x (by omega) hx hb
  |N+2=>exact step N (ih N (by omega))
theorem Zgl(hB:BulkOk bulk)(hS:BulkSum bulk):Opens enc Tryz.prog w bulk BB 61 cEx (fun e=>sizeE e<=1048576):=
 (OpensU.all (Zs9 hB hS)).imp id (fun _=>rfl) (fun _ h=>h.2)
theorem Zsg(hB:BulkOk bulk):Opens enc Tryz.prog w bulk BB 28 cSco smallS:=
 (Opens.struct hB Tryz.underlying28 (by kernel_rfl) (.cons (size:=2) rfl (by kernel_rfl) (Zsb hB) (.cons (size:=1) rfl (by kernel_rfl) (Z2k hB) (.cons (size:=1) rfl (by kernel_rfl) (Z2k hB) .nil)))).imp (fun x=>⟨x.1,x.2.1,x.2.2.1⟩) (fun _=>rfl) (fun _ h=>⟨h.1,h.2.1,h.2.2.1⟩)
theorem Zs7(hB:BulkOk bulk):Opens enc Tryz.prog w bulk BB 109 (fun x:Evt=>[vint x.dev,vstr x.cluster,vstr x.name]) (fun _=>True):=
 (Opens.struct hB Tryz.underlying109 (by kernel_rfl) (.cons (size:=1) rfl (by kernel_rfl) op_int (.cons (size:=1) rfl (by kernel_rfl) (Z0k hB) (.cons (size:=1) rfl (by kernel_rfl) (Z0k hB) .nil)))).imp (fun x=>⟨x.1,x.2.1,x.2.2.1⟩) (fun _=>rfl) (fun _ _=>trivial)
theorem Zsj(hB:BulkOk bulk):Opens enc Tryz.prog w bulk BB 120 cTrg (fun _=>True):=
 (Opens.struct hB Tryz.underlying120 (by kernel_rfl) (.cons (size:=1) rfl (by kernel_rfl) op_int (.cons (size:=3) rfl (by kernel_rfl) (op_Key hB) (.cons (size:=3) rfl (by kernel_rfl) (Zs7 hB) (.cons (size:=1) rfl (by kernel_rfl) (Z0k hB) (.cons (size:=1) rfl (by kernel_rfl) op_int (.cons (size:=1) rfl (by kernel_rfl) op_int .nil))))))).imp
  (fun x=>⟨x.1,x.2.1,x.2.2.1,x.2.2.2.1,x.2.2.2.2.1,x.2.2.2.2.2.1⟩) (fun _=>rfl) (fun _ _=>trivial)
theorem Zsy(hB:BulkOk bulk):Opens enc Tryz.prog w bulk BB 54 (fun l:List Trg=>[roL 10 cTrg l]) smallL:=
 (Opens.slice hB Tryz.underlying54 (by kernel_rfl) (by decide) (Zsj hB)).imp id (fun _=>rfl) (fun _ h=>h.1)
theorem Zsi(hB:BulkOk bulk)(hS:BulkSum bulk):Opens enc Tryz.prog w bulk BB 79 cStp (fun x=>sizeE x.expr<=1048576):=
 (Opens.struct hB Tryz.underlying79 (by kernel_rfl) (.cons (size:=1) rfl (by kernel_rfl) op_int (.cons (size:=3) rfl (by kernel_rfl) (op_Key hB) (.cons (size:=1) rfl (by kernel_rfl) (Z0k hB) (.cons (size:=11) rfl (by kernel_rfl) (Zgl hB hS) .nil))))).imp (fun x=>⟨x.1,x.2.1,x.2.2.1,x.2.2.2.1⟩) (fun _=>rfl) (fun _ h=>h.2.2.2.1)
theorem Zsx(hB:BulkOk bulk)(hS:BulkSum bulk):Opens enc Tryz.prog w bulk BB 62 (fun l:List Stp=>[roL 16 cStp l]) (fun l=>smallL l∧∀i,i<l.length->sizeE (l.getD i default).expr<=1048576):=
 (Opens.slice hB Tryz.underlying62 (by kernel_rfl) (by decide) (Zsi hB hS)).imp id (fun _=>rfl) (fun _ h=>h)
theorem Zse(hB:BulkOk bulk)(hS:BulkSum bulk):Opens enc Tryz.prog w bulk BB 64 cRul goodRulO:=
 (Opens.struct hB Tryz.underlying64 (by kernel_rfl) (.cons (size:=1) rfl (by kernel_rfl) (Z0k hB) (.cons (size:=1) rfl (by kernel_rfl) op_int (.cons (size:=1) rfl (by kernel_rfl) (Zsy hB) (.cons (size:=11) rfl (by kernel_rfl) (Zgl hB hS) (.cons (size:=1) rfl (by kernel_rfl) (Zsx hB hS) .nil)))))).imp
  (fun x=>⟨x.1,x.2.1,x.2.2.1,x.2.2.2.1,x.2.2.2.2.1⟩) (fun _=>rfl) (fun _ h=>⟨qF h.2.2.2.1 (by decide),fun i hi=>qF (h.2.2.2.2.1.2 i hi) (by decide)⟩)
theorem Zsu(hB:BulkOk bulk)(hS:BulkSum bulk):Opens enc Tryz.prog w bulk BB 30 (fun l:List Rul=>[roL 15 cRul l]) (fun l=>smallL l∧∀i,i<l.length->goodRulO (l.getD i default)):=
 (Opens.slice hB Tryz.underlying30 (by kernel_rfl) (by decide) (Zse hB hS)).imp id (fun _=>rfl) (fun _ h=>h)
end
end Go.Abs
namespace Go.Proofs.YtipbekclhmbclaaGreatDoor
open Go.ChangeShapes Go.WideShapes Go.ChangeAt Go.RowKit Go.Abs
theorem bulkSum{H:Type}:BulkSum (Rows.uptoBulk (H:=H)):=by
 have all:∀l:List (DataW H),Rows.uptoBulkAll l=(l.map Rows.uptoBulk).sum:=by
  intro l
  induction l with
  |nil=>rfl
  |cons x r ih=>simp only[Rows.uptoBulkAll,List.map_cons,List.sum_cons,ih]
 refine⟨fun e s=>?_,fun l=>?_⟩
 ·simp only[Rows.uptoBulk,all];omega
 simp only[Rows.uptoBulk,all];omega
end Go.Proofs.YtipbekclhmbclaaGreatDoor
namespace Go.Abs
theorem Z58:∀ {l k:List Key},Asc l->Asc k->(∀x,x∈l↔x∈k)->l=k
 | [],[],_,_,_=>rfl
 | [],b::k,_,_,h=>by have:=(h b).2 (by simp);simp at this
 |a::l,[],_,_,h=>by have:=(h a).1 (by simp);simp at this
 |a::l,b::k,hl,hk,h=>by
  obtain⟨hl1,hl2⟩:=qQ.1 hl;obtain⟨hk1,hk2⟩:=qQ.1 hk;have e:a=b:=by
   have h1:=(h a).1 (by simp);have h2:=(h b).2 (by simp);rcases qk.1 h1 with e|h1
   ·exact e
   rcases qk.1 h2 with e|h2
   ·exact e.symm
   have:=Za2 (hl1 b h2);rw[hk1 a h1]at this;cases this
  subst e;congr 1;refine Z58 hl2 hk2 fun x=>⟨fun hx=>?_,fun hx=>?_⟩
  ·rcases qk.1 ((h x).1 (by simp[hx]))with e|h1
   ·subst e;have:=hl1 x hx;rw[Z15]at this;cases this
   exact h1
  rcases qk.1 ((h x).2 (by simp[hx]))with e|h1
  ·subst e;have:=hk1 x hx;rw[Z15]at this;cases this
  exact h1
theorem Zpw{l acc:List Key}{x:Key}:x∈l.foldl putK acc↔x∈acc∨x∈l:=by
 induction l generalizing acc with
 |nil=>simp
 |cons y r ih=>
  simp only[List.foldl_cons,ih,mem_putK,qk];constructor
  ·rintro ((h|h)|h)
   ·exact .inr (.inl h)
   ·exact .inl h
   exact .inr (.inr h)
  rintro (h|h|h)
  ·exact .inl (.inr h)
  ·exact .inl (.inl h)
  exact .inr h
theorem Z2j{l:List Key}{x:Key}:x∈sortK l↔x∈l:=by unfold sortK;rw[Zpw];simp
theorem Z61{l k:List Key}(h:∀x,x∈l↔x∈k):sortK l=sortK k:=Z58 (Z2c l) (Z2c k) fun x=>by rw[Z2j,Z2j,h]
theorem Asc.nodup{l:List Key}(h:Asc l):l.Nodup:=by
 refine List.Pairwise.imp (fun {a b} hab=>?_) h;intro e;subst e;rw[Z15]at hab;cases hab
theorem Zhh(s:Sco)(l:List Rul):(rulesE s l.reverse).2=0↔(rulesE s l).2=0:=by
 rw[Z2n,Z2n];simp only[qH,List.mem_reverse,List.map_reverse];have:(l.map Rul.name).reverse.Nodup↔(l.map Rul.name).Nodup:=(List.reverse_perm _).nodup_iff;rw[this]
theorem Z62{l k:List ByteArray}(h:∀x,x∈l↔x∈k):sortS l=sortS k:=Z43 (Z39 l) (Z39 k) fun x=>by rw[mem_sortS,mem_sortS,h]
theorem AscS.nodup{l:List ByteArray}(h:AscS l):l.Nodup:=by
 refine List.Pairwise.imp (fun {a b} hab=>?_) h;intro e;subst e;rw[Z1r]at hab;cases hab
theorem Zgd{l:List ByteArray}:∀ {m:List ByteArray},l.Nodup->(∀x∈l,x∈m)->l.length<=m.length:=by
 induction l with
 |nil=>intro m _ _;simp
 |cons a l ih=>
  intro m hn hs;obtain⟨h1,h2⟩:=List.nodup_cons.1 hn;have ha:a∈m:=hs a (by simp);have h3:=ih (m:=m.filter fun y=>decide (y≠a)) h2 (fun x hx=>List.mem_filter.2 ⟨hs x (by simp[hx]),qB fun e=>h1 (by rw[<-e];exact hx)⟩);have h4:(m.filter fun y=>decide (y≠a)).length<m.length:=List.length_filter_lt_length_iff_exists.2 ⟨a,ha,by simp⟩;simp only[qy];omega
theorem Z9y{m:List ByteArray}{x:ByteArray}{j:Nat}(h:j<=m.length):(insM m x j).length=m.length+1:=by
 unfold insM;rw[ql,qq,qy,List.length_drop];omega
theorem Zf6{m:List ByteArray}{x:ByteArray}{j i:Nat}(h:j<=m.length):(insM m x j).getD i default=if i<j then m.getD i default else if i=j then x else m.getD (i-1) default:=by
 unfold insM
 by_cases h1:i<j
 ·rw[qK h1];have h2:i<(m.take j).length:=by rw[qq];omega
  simp[List.getD,qr h2,qm,h1]
 rw[qJ h1];have h2:(m.take j).length<=i:=by rw[qq];omega
 have h3:(m.take j).length=j:=by rw[qq];omega
 by_cases h4:i=j
 ·rw[qK h4];subst h4;simp[List.getD,qv h2,h3]
 rw[qJ h4];simp only[List.getD,qv h2,h3];obtain⟨d,rfl⟩:∃d,i=j+(d+1):=⟨i-j-1,by omega⟩;rw[show j+(d+1)-j=d+1 by omega,List.getElem?_cons_succ,qA,show j+(d+1)-1=j+d by omega]
theorem Zuh{l:List ByteArray}{x:ByteArray}(h:x∈l):sortS (l ++ [x])=sortS l:=Z62 fun y=>by
 rw[qo,List.mem_singleton];exact⟨fun h2=>h2.elim id (fun e=>e▸h),.inl⟩
theorem Zeu{l:List ByteArray}{k:Nat}(hk:k<l.length):idxOf l (l.getD k default)<(k:Int)↔l.getD k default∈l.take k:=by
 rw[Z5h hk];simp only[memN,List.any_eq_true,List.mem_range,Q0];constructor
 ·rintro ⟨j,hj,e⟩
  rw[<-e];have hj2:j<(l.take k).length:=by rw[qq];omega
  have:l.getD j default=(l.take k)[j]:=by simp[List.getD,show j<l.length by omega]
  rw[this];exact qE hj2
 intro h;obtain⟨j,hj,e⟩:=qp h;rw[qq]at hj;refine⟨j,by omega,?_⟩;rw[<-e];simp[List.getD,show j<l.length by omega]
open Go.Proofs
set_option maxRecDepth 10000
theorem Z51(l:List ByteArray)(hl:l.length<=1048576):AC Tryz.prog 37 [.pv (roL 1 cstr l)] [] (.pv (roL 1 cstr (sortS l))) []:=by
 refine AC.of_awp (T:=T) T_ok hm Tryz.call37 Tryz.func37 rfl rfl rfl ?_
 conv=>whnf
 refine loop_k (ι:=Nat) [0] [] (fun k=>k<=l.length∧True) (fun k=>l.length-k) 0 (fun k=>[(3,.own 500),(4,.pv (vint k))]) (fun k=>[(500,rowL 1 cstr (sortS (l.take k)))]) [] ⟨qe _,trivial⟩ ?_ (fun k hk=>?_)
 ·(repeat'(first|exact QC|refine qa ?_ ?_));all_goals((intro i hi;exact absurd hi (by simp[sortS])))
 obtain⟨hkn,hinv⟩:=hk
 conv=>whnf
 have hlen:=Z32 (l.take k);rw[qq]at hlen
 repeat(any_goals((first|refine⟨QT ?_,QF ?_⟩<;>intro h<;>(try simp only[Q0,Q1,Q2,Q3,Q4,Q5,Q6,Q7,Q8,reduceCtorEq]at h)|refine .inl ⟨_,Z1a l (l.getD k default) hl,?_⟩|refine QI ?_|refine .inl ⟨wrap64 (by omega),?_⟩)<;>conv=>whnf))
 ·have hk:k<l.length:=by omega
  have hin:=(Zeu hk).1 h;refine⟨k+1,[],⟨by omega,trivial⟩,by omega,?_⟩;rw[Z09 hk,Zuh hin];(repeat'(first|exact QC|refine qa ?_ ?_));intro i hi;exact PSubs.rfl
 ·have hk:k<l.length:=by omega
  have hin:¬l.getD k default∈l.take k:=fun h2=>h ((Zeu hk).2 h2)
  have hx:l.getD k default∉sortS (l.take k):=fun h2=>hin (mem_sortS.1 h2)
  have hA:=Z39 (l.take k);have hS:=Zi2 (l.take k) (l.getD k default);rw[<-Z09 hk]at hS;obtain⟨x,hxdef⟩:∃x,x=l.getD k default:=⟨_,rfl⟩;rw[<-hxdef]at hin hx hS;generalize sortS (l.take k)=m at *;refine loop_k (ι:=Nat) [0,4] [] (fun j=>j<=m.length∧∀i,j<=i->i<m.length->sLt x (m.getD i default)=true) (fun j=>j) m.length (fun j=>[(3,.own 501),(5,.pv (vint j))]) (fun j=>[(501,rowL 1 cstr (insM m x j))]) [(501,27)] ⟨qL _,fun i h1 h2=>absurd h2 (by omega)⟩ ?_ (fun j hj=>?_)
  ·have hi:=Z9y (x:=x) (qL m.length);have he:insM m x m.length=m ++ [x]:=by simp[insM]
   rw[he];(repeat'(first|exact QC|refine qa ?_ ?_))
   ·simp
   ·refine Z05 (fun i hi=>by simp only[qK hi];exact PSubs.rfl) (by simp only[qJ (qM _),Nat.sub_self];rw[hxdef];exact PSubs.rfl)
   exact PSub.int (by omega)
  obtain⟨hjn,hinv⟩:=hj;have hil:=Z9y (x:=x) hjn;have hg:∀i,(insM m x j).getD i default=if i<j then m.getD i default else if i=j then x else m.getD (i-1) default:=fun i=>Zf6 hjn
  have hxj:(insM m x j).getD j default=x:=by rw[hg,qJ (by omega),qK rfl]
  have hj1:((j:Int)-1).toNat=j-1:=by omega
  have hmj:0<j->(insM m x j).getD (j-1) default=m.getD (j-1) default:=fun h=>by rw[hg,qK (by omega)]
  conv=>whnf
  repeat(any_goals((first|refine⟨QT ?_,QF ?_⟩<;>intro h<;>(try simp only[Q0,Q1,Q2,Q3,Q4,Q5,Q6,Q7,Q8,reduceCtorEq]at h)|refine QI ?_|refine QK ?_|refine .inl ⟨wrap64 (by omega),?_⟩)<;>conv=>whnf))
  ·have hpos:0<j:=by omega
   rw[hj1,hxj,hmj hpos]at h;refine⟨j-1,[],⟨by omega,fun i h1 h2=>?_⟩,by omega,?_⟩
   ·by_cases e:i=j-1
    ·subst e;exact h
    exact hinv i (by omega) h2
   have hil2:=Z9y (x:=x) (show j-1<=m.length by omega);have hg2:∀i,(insM m x (j-1)).getD i default=if i<j-1 then m.getD i default else if i=j-1 then x else m.getD (i-1) default:=fun i=>Zf6 (by omega)
   (repeat'(first|exact QC|refine qa ?_ ?_))
   ·rw[hil2,hil]
   ·intro i hi;simp only[Q4,hj1]
    by_cases e1:i=j-1
    ·subst e1;rw[Z19,Z11 (by omega),hg2,qJ (by omega),qK rfl];exact⟨PSub.str hxj,trivial⟩
    rw[Z11 e1]
    by_cases e2:i=j
    ·subst e2;rw[Z19,hg2,qJ (by omega),qJ (by omega)];exact⟨PSub.str (hmj hpos),trivial⟩
    rw[Z11 e2,hg2];refine⟨PSub.str ?_,trivial⟩;rw[hg]
    by_cases e3:i<j
    ·rw[qK e3,qK (by omega)]
    rw[qJ e3,qJ e2,qJ (by omega),qJ (by omega)]
   exact PSub.int (by omega)
  ·have hpos:0<j:=by omega
   rw[hj1,hxj,hmj hpos]at h;refine⟨k+1,[(500,501)],⟨by omega,trivial⟩,by omega,?_⟩;rw[hS,<-Z9z hA hx hjn hinv (.inr h)];(repeat'(first|exact QC|refine qa ?_ ?_));intro i hi;exact PSubs.rfl
  have hz:j=0:=by omega
  refine⟨k+1,[(500,501)],⟨by omega,trivial⟩,by omega,?_⟩;rw[hS,<-Z9z hA hx hjn hinv (.inl hz)];(repeat'(first|exact QC|refine qa ?_ ?_));intro i hi;exact PSubs.rfl
 rw[List.take_of_length_le (by omega)];exact .rfl
open Go.Proofs Go.RowKit
section
variable {H:Type} {enc:TypeId×Value->H} {w:World} {bulk:DataW H->Nat}
theorem Zss(hB:BulkOk bulk):Opens enc Tryz.prog w bulk BB 35 (fun l:List Key=>[roL 3 cKey l]) smallL:=
 (Opens.slice hB Tryz.underlying35 (by kernel_rfl) (by decide) (op_Key hB)).imp id (fun _=>rfl) (fun _ h=>h.1)
theorem Zsf(hB:BulkOk bulk):Opens enc Tryz.prog w bulk BB 76 cSce (fun s=>goodItems s.items):=
 (Opens.struct hB Tryz.underlying76 (by kernel_rfl) (.cons (size:=1) rfl (by kernel_rfl) (Z0k hB) (.cons (size:=1) rfl (by kernel_rfl) (Zgm hB) .nil))).imp (fun x=>⟨x.1,x.2.1⟩) (fun _=>rfl) (fun _ h=>h.2.1)
end
theorem Zfd{α:Type}[Inhabited α]{lt:α->α->Bool}(h:TO (fun x y=>x=y) lt){l k:List α}(hp:l.Perm k):isortR lt l=isortR lt k:=by
 have hw:=h.swo;refine Zba hw (Z1e hw l).1 (Z1e hw k).1 fun x=>?_
 rw[(Z1e hw l).2 x,(Z1e hw k).2 x];have hx:∀m:List α,m.filter (eqv lt x)=List.replicate (m.filter (eqv lt x)).length x:=fun m=>by
  rw[List.eq_replicate_iff];refine⟨rfl,fun y hy=>?_⟩;have h2:=eqv_iff.1 (List.mem_filter.1 hy).2
  by_cases e:x=y
  ·exact e.symm
  rcases h.tot _ _ e with k|k
  ·rw[h2.1]at k;cases k
  rw[h2.2]at k;cases k
 rw[hx l,hx k,(hp.filter _).length_eq]
theorem Z4s{s:Sco}{l:List Rul}(h:runE s l=0):scoE s=0∧(rulesE s l).2=0:=by
 unfold runE at h
 split at h
 ·rename_i h1;exact absurd h h1
 rename_i h1;exact⟨by simpa using h1,h⟩
theorem Zi1:∀ {l:List ByteArray},(sortS l).length=l.length->l.Nodup
 | [],_=>List.nodup_nil
 |x::r,h=>by
  have hx:x∉r:=fun hx=>by
   have e:sortS (x::r)=sortS r:=Z62 fun y=>by
    rw[qk];exact⟨fun k=>k.elim (fun e=>e▸hx) id,.inr⟩
   have:=Z32 r;rw[e,qy]at h;omega
  refine List.nodup_cons.2 ⟨hx,Zi1 ?_⟩;have h1:(sortS (x::r)).length<=(x::sortS r).length:=Zgd (Z39 _).nodup fun y hy=>by
   rw[mem_sortS,qk]at hy;rw[qk,mem_sortS];exact hy
  have h2:=Z32 r;rw[h,qy,qy]at h1;omega
theorem Z2i(l:List Write):(isortR ordW l).length=l.length:=Z4l l
theorem Z5y{s:Sco}{sc:List Scene}{v:Vw}{h:Hap}{l:List Rul}:shortO (runR s sc v h l):=by
 unfold runR;split
 ·rename_i he;have ok:=(Z2n s l).1 (Z4s he).2;have h40:=ok.1;have hl:=Z7i (sc:=sc) (v:=v) (h:=h) ok.2.1 l.length (qL _);have a:=hl.w;have b:=hl.m;have c:=hl.r;have d:=hl.n;rw[Zax];refine⟨?_,?_,?_,?_⟩
  ·show(isortR _ _).length<=_;rw[Z2i];omega
  ·show(isortR _ _).length<=_;rw[Z2i];omega
  ·have:=Z32 (rawK s sc v h l l.length).ran;show(sortS _).length<=_;omega
  have:=Z32 (rawK s sc v h l l.length).notes;show(sortS _).length<=_;omega
 exact⟨by decide,by decide,by decide,by decide⟩
section
variable {H:Type} {enc:TypeId×Value->H} {w:World} {bulk:DataW H->Nat}
theorem Zsh(hB:BulkOk bulk):Opens enc Tryz.prog w bulk BB 310 cSpn (fun _=>True):=
 (Opens.struct hB Tryz.underlying310 (by kernel_rfl) (.cons (size:=1) rfl (by kernel_rfl) op_int (.cons (size:=1) rfl (by kernel_rfl) op_int .nil))).imp (fun x=>⟨x.1,x.2.1⟩) (fun _=>rfl) (fun _ _=>trivial)
theorem Zsw(hB:BulkOk bulk):Opens enc Tryz.prog w bulk BB 103 (fun l:List Spn=>[roL 2 cSpn l]) smallL:=
 (Opens.slice hB Tryz.underlying103 (by kernel_rfl) (by decide) (Zsh hB)).imp id (fun _=>rfl) (fun _ h=>h.1)
theorem Zsd(hB:BulkOk bulk):Opens enc Tryz.prog w bulk BB 105 cMem (fun _=>True):=
 (Opens.struct hB Tryz.underlying105 (by kernel_rfl) (.cons (size:=1) rfl (by kernel_rfl) (Z0k hB) (.cons (size:=1) rfl (by kernel_rfl) op_int (.cons (size:=1) rfl (by kernel_rfl) (Zsw hB) (.cons (size:=1) rfl (by kernel_rfl) (Z2k hB) (.cons (size:=1) rfl (by kernel_rfl) Z5q .nil)))))).imp
  (fun x=>⟨x.1,x.2.1,x.2.2.1,x.2.2.2.1,x.2.2.2.2.1⟩) (fun _=>rfl) (fun _ _=>trivial)
theorem Zst(hB:BulkOk bulk):Opens enc Tryz.prog w bulk BB 32 (fun l:List Mem=>[roL 5 cMem l]) smallL:=
 (Opens.slice hB Tryz.underlying32 (by kernel_rfl) (by decide) (Zsd hB)).imp id (fun _=>rfl) (fun _ h=>h.1)
theorem Zsk(hB:BulkOk bulk):Opens enc Tryz.prog w bulk BB 34 cVw smallV2:=
 (Opens.struct hB Tryz.underlying34 (by kernel_rfl) (.cons (size:=1) rfl (by kernel_rfl) (Zgm hB) (.cons (size:=1) rfl (by kernel_rfl) (Z0k hB) (.cons (size:=1) rfl (by kernel_rfl) op_int (.cons (size:=1) rfl (by kernel_rfl) (Zst hB) .nil))))).imp
  (fun x=>⟨x.1,x.2.1,x.2.2.1,x.2.2.2.1⟩) (fun _=>rfl) (fun _ h=>⟨h.1.1,h.2.2.2.1⟩)
theorem Zs8(hB:BulkOk bulk):Opens enc Tryz.prog w bulk BB 109 cKey (fun _=>True):=
 (Opens.struct hB Tryz.underlying109 (by kernel_rfl) (.cons (size:=1) rfl (by kernel_rfl) op_int (.cons (size:=1) rfl (by kernel_rfl) (Z0k hB) (.cons (size:=1) rfl (by kernel_rfl) (Z0k hB) .nil)))).imp (fun x=>⟨x.1,x.2.1,x.2.2.1⟩) (fun _=>rfl) (fun _ _=>trivial)
theorem Zsr(hB:BulkOk bulk):Opens enc Tryz.prog w bulk BB 36 (fun l:List Key=>[roL 3 cKey l]) smallL:=
 (Opens.slice hB Tryz.underlying36 (by kernel_rfl) (by decide) (Zs8 hB)).imp id (fun _=>rfl) (fun _ h=>h.1)
theorem Zsa(hB:BulkOk bulk):Opens enc Tryz.prog w bulk BB 38 cHap smallHp:=
 (Opens.struct hB Tryz.underlying38 (by kernel_rfl) (.cons (size:=1) rfl (by kernel_rfl) (Zss hB) (.cons (size:=1) rfl (by kernel_rfl) (Zsr hB) (.cons (size:=1) rfl (by kernel_rfl) op_int (.cons (size:=1) rfl (by kernel_rfl) op_int (.cons (size:=1) rfl (by kernel_rfl) (Z0k hB) (.cons (size:=1) rfl (by kernel_rfl) Z5q (.cons (size:=1) rfl (by kernel_rfl) (Z2k hB) .nil)))))))).imp
  (fun x=>⟨x.1,x.2.1,x.2.2.1,x.2.2.2.1,x.2.2.2.2.1,x.2.2.2.2.2.1,x.2.2.2.2.2.2.1⟩) (fun _=>rfl) (fun _ h=>⟨h.1,h.2.1,h.2.2.2.2.2.2.1⟩)
theorem Zsv(hB:BulkOk bulk):Opens enc Tryz.prog w bulk BB 29 (fun l:List Scene=>[roL 2 cSce l]) smallSc:=
 (Opens.slice hB Tryz.underlying29 (by kernel_rfl) (by decide) (Zsf hB)).imp id (fun _=>rfl) (fun _ h=>⟨h.1,fun i hi=>(h.2 i hi).1⟩)
theorem Zz0(hB:BulkOk bulk)(hS:BulkSum bulk):Opens enc Tryz.prog w bulk BB 40 cRuC smallRuC:=
 (Opens.struct hB Tryz.underlying40 (by kernel_rfl) (.cons (size:=4) rfl (by kernel_rfl) (Zsg hB) (.cons (size:=1) rfl (by kernel_rfl) (Zsv hB) (.cons (size:=1) rfl (by kernel_rfl) (Zsu hB hS) (.cons (size:=4) rfl (by kernel_rfl) (Zsk hB) (.cons (size:=7) rfl (by kernel_rfl) (Zsa hB) .nil)))))).imp
  (fun x=>⟨x.1,x.2.1,x.2.2.1,x.2.2.2.1,x.2.2.2.2.1⟩) (fun _=>rfl) (fun _ h=>⟨h.1,h.2.1,h.2.2.1,h.2.2.2.1,h.2.2.2.2.1⟩)
end
theorem Zgo{α β:Type}{l k:List α}(h:l.Perm k)(f:α->List β):(l.flatMap f).Perm (k.flatMap f):=by
 induction h with
 |nil=>exact .refl _
 |cons x _ ih=>rw[List.flatMap_cons,List.flatMap_cons];exact ih.append_left _
 |swap x y l=>
  simp only[List.flatMap_cons,<-List.append_assoc];exact List.perm_append_comm.append_right _
 |trans _ _ h1 h2=>exact h1.trans h2
theorem Zru{v w:Vw}(h:SameV v w)(k n m:Int)(nm:ByteArray)(x:Val)(q:Key)(l:List Val):nodV v k n m nm x q l=nodV w k n m nm x q l:=by
 unfold nodV;rw[h.at,h.mode,h.minute,h.home]
mutual
theorem Ze2{v w:Vw}(h:SameV v w):∀e:Ex,evR v e=evR w e
 | .mk k n m nm x q ks=>by rw[evR,evR,Ze0 h ks,Zru h]
theorem Ze0{v w:Vw}(h:SameV v w):∀l:List Ex,evL v l=evL w l
 | []=>by rw[evL,evL]
 |e::es=>by rw[evL,evL,Ze2 h e,Ze0 h es]
end
theorem Z9f{v w:Vw}(h:SameV v w)(e:Ex):evlE v e=evlE w e:=by unfold evlE;rw[Ze2 h]
theorem Zwy{v w:Vw}(h:SameV v w)(e:Ex):truE v e=truE w e:=by unfold truE;rw[Z9f h]
theorem Ze6{l:List Item}(hn:(l.map Item.key).Nodup){q:Key}{x:Item}:findI l q=some x↔x∈l∧x.key=q:=by
 induction l with
 |nil=>simp[findI]
 |cons y l ih=>
  rw[List.map_cons,List.nodup_cons]at hn;have e:findI (y::l) q=if y.key=q then some y else findI l q:=by
   unfold findI;rw[List.find?_cons]
   by_cases h:y.key=q<;>simp[h]
  rw[e,qk];split
  ·rename_i h;constructor
   ·intro h1;cases h1;exact⟨.inl rfl,h⟩
   rintro ⟨h1|h1,h2⟩
   ·rw[h1]
   exact absurd (List.mem_map.2 ⟨x,h1,h2.trans h.symm⟩) hn.1
  rename_i h;rw[ih hn.2];constructor
  ·rintro ⟨h1,h2⟩;exact⟨.inr h1,h2⟩
  rintro ⟨h1|h1,h2⟩
  ·rw[h1]at h2;exact absurd h2 h
  exact⟨h1,h2⟩
theorem Zpp{l:List Item}(hn:(l.map Item.key).Nodup)(q:Key):findI l.reverse q=findI l q:=by
 have hn2:(l.reverse.map Item.key).Nodup:=by rw[List.map_reverse];exact(List.reverse_perm _).nodup_iff.2 hn
 apply Option.ext;intro x;rw[Ze6 hn,Ze6 hn2,List.mem_reverse]
def backV(v:Vw):Vw:=⟨v.items.reverse,v.mode,v.minute,v.members.reverse⟩
theorem Zo7{v:Vw}(hn:(v.items.map Item.key).Nodup):SameV (backV v) v:=
 ⟨Zpp hn,rfl,rfl,fun r=>by unfold backV homeB;rw[List.any_reverse]⟩
theorem Zho{l:List Scene}{s:ByteArray}:sceAt l s<l.length↔∃x∈l,x.name=s:=by
 rcases Z6y (n:=l.length) (p:=fun i=>decide ((l.getD i default).name=s))with⟨h1,h2,_⟩|⟨h1,h2⟩
 ·refine⟨fun _=>⟨l[firstI _ _]'h1,qE h1,?_⟩,fun _=>h1⟩;have:=qC h2;rwa[Z03 _ _ h1]at this
 constructor
 ·intro h;unfold sceAt at h;omega
 rintro ⟨x,hx,e⟩
 obtain⟨i,hi,rfl⟩:=qp hx;have:=h2 i hi;rw[Z03 _ _ hi]at this;simp[e]at this
theorem Ze9{l:List Scene}{s:ByteArray}(h:sceAt l s<l.length):findS l s∈l∧(findS l s).name=s:=by
 rcases Z6y (n:=l.length) (p:=fun i=>decide ((l.getD i default).name=s))with⟨h1,h2,_⟩|⟨h1,h2⟩
 ·unfold findS;rw[qK h];have h3:=qC h2;refine⟨?_,h3⟩;unfold sceAt;rw[Z03 _ _ h1];exact qE h1
 unfold sceAt at h;omega
theorem Zua{l:List Scene}(h:(l.map Scene.name).Nodup){a b:Scene}(ha:a∈l)(hb:b∈l)(e:a.name=b.name):a=b:=by
 induction l with
 |nil=>cases ha
 |cons x l ih=>
  rw[List.map_cons,List.nodup_cons]at h;rcases qk.1 ha with e1|h1
  ·rcases qk.1 hb with e2|h2
   ·rw[e1,e2]
   exact absurd (List.mem_map.2 ⟨b,h2,by rw[<-e,e1]⟩) h.1
  rcases qk.1 hb with e2|h2
  ·exact absurd (List.mem_map.2 ⟨a,h1,by rw[e,e2]⟩) h.1
  exact ih h.2 h1 h2
theorem Zu8{s:Sco}{sc:List Scene}(hn:(sc.map Scene.name).Nodup)(x:Stp)(c:Cause)(i:Int):sceW s sc.reverse x c i=sceW s sc x c i:=by
 unfold sceW
 by_cases h:sceAt sc x.name<sc.length
 ·have h2:sceAt sc.reverse x.name<sc.reverse.length:=by
   rw[Zho]at h ⊢;obtain⟨y,hy,e⟩:=h;exact⟨y,List.mem_reverse.2 hy,e⟩
  have e:findS sc.reverse x.name=findS sc x.name:=by
   obtain⟨a1,a2⟩:=Ze9 h;obtain⟨b1,b2⟩:=Ze9 h2;exact Zua hn (List.mem_reverse.1 b1) a1 (b2.trans a2.symm)
  rw[e]
  by_cases hc:checkS s.home (findS sc x.name)=0
  ·rw[qK ⟨h2,hc⟩,qK ⟨h,hc⟩]
  rw[qJ (fun x=>hc x.2),qJ (fun x=>hc x.2)]
 have h2:¬sceAt sc.reverse x.name<sc.reverse.length:=fun h2=>by
  apply h;rw[Zho]at h2 ⊢;obtain⟨y,hy,e⟩:=h2;exact⟨y,List.mem_reverse.1 hy,e⟩
 rw[qJ (fun x=>h2 x.1),qJ (fun x=>h x.1)]
theorem Zd7{v w:Vw}(h:SameV v w)(dev:Int)(k:Clu)(n:Nat):bfrL v.items dev k n=bfrL w.items dev k n:=by
 unfold bfrL;apply List.map_congr_left;intro j _;unfold befV;rw[h.items]
theorem Zcu{v w:Vw}(h:SameV v w)(x:Stp)(k:Clu):aftL v x k=aftL w x k:=by
 unfold aftL parX;rw[Z9f h,Zd7 h]
theorem Zwm{s:Sco}{sc:List Scene}{v w:Vw}(hs:(sc.map Scene.name).Nodup)(h:SameV v w)(c:Cause)(x:Stp)(i:Int):stpW s sc.reverse v c x i=stpW s sc w c x i:=by
 unfold stpW;have e1:setW s v x c i=setW s w x c i:=by unfold setW limX;rw[Z9f h]
 have e2:callW s v x c i=callW s w x c i:=by
  unfold callW;rw[Zcu h];congr 1;funext j;unfold chgW;rw[Zcu h,Zd7 h]
 rw[e1,e2,Zu8 hs]
theorem Ztr{s:Sco}{sc:List Scene}{v w:Vw}(hs:(sc.map Scene.name).Nodup)(h:SameV v w)(r:Rul)(n:Nat):rulW s sc.reverse v r n=rulW s sc w r n:=by
 unfold rulW;congr 1;funext i;exact Zwm hs h _ _ _
def backH(h:Hap):Hap:=⟨h.changed.reverse,h.events.reverse,h.fr,h.to,h.mode,h.start,h.held.reverse⟩
theorem Zrw(h:Hap):normH (backH h)=normH h:=by
 unfold normH backH;have e1:sortK h.changed.reverse=sortK h.changed:=Z61 fun x=>List.mem_reverse
 have e2:sortK h.events.reverse=sortK h.events:=Z61 fun x=>List.mem_reverse
 have e3:sortS h.held.reverse=sortS h.held:=Z62 fun x=>List.mem_reverse
 simp only[e1,e2,e3]
theorem Zt5{v w:Vw}(hv:SameV v w)(h:Hap)(l:List Rul):ranL v (backH h) l.reverse=(ranL w h l).reverse:=by
 unfold ranL;rw[List.filter_reverse];congr 1;apply List.filter_congr;intro r _;unfold ranB anyB;rw[Zrw,Zwy hv]
theorem Ztw{s:Sco}{sc:List Scene}{v:Vw}{h:Hap}{l:List Rul}(hs:(sc.map Scene.name).Nodup)(hv:(v.items.map Item.key).Nodup) :
  runO s sc.reverse (backV v) (backH h) l.reverse=runO s sc v h l:=by
 have hsv:=Zo7 hv;have e:=Zt5 hsv h l;unfold runO;rw[e];have h1:isortR ordW (allW s sc.reverse (backV v) (ranL v h l).reverse)=isortR ordW (allW s sc v (ranL v h l)):=by
  refine Zfd to_ord ?_;have:(fun r:Rul=>rulW s sc.reverse (backV v) r r.steps.length)=fun r=>rulW s sc v r r.steps.length:=funext fun r=>Ztr hs hsv r _
  unfold allW;rw[this];exact Zgo (List.reverse_perm _) _
 have h2:isortR ordW (allM (ranL v h l).reverse)=isortR ordW (allM (ranL v h l)):=Zfd to_ord (Zgo (List.reverse_perm _) _);have h3:sortS ((ranL v h l).reverse.map Rul.name)=sortS ((ranL v h l).map Rul.name):=Z62 fun x=>by simp
 have h4:sortS (allN (ranL v h l).reverse)=sortS (allN (ranL v h l)):=Z62 fun x=>by simp[allN]
 rw[h1,h2,h3,h4]
theorem runE_back{s:Sco}{l:List Rul}:runE s l.reverse=0↔runE s l=0:=by
 constructor
 ·intro h;obtain⟨h1,h2⟩:=Z4s h;exact Z5x h1 ((Zhh s l).1 h2)
 intro h;obtain⟨h1,h2⟩:=Z4s h;exact Z5x h1 ((Zhh s l).2 h2)
theorem Ztt{s:Sco}{sc:List Scene}{v:Vw}{h:Hap}{l:List Rul}(hs:(sc.map Scene.name).Nodup)(hv:(v.items.map Item.key).Nodup) :
  runR s sc.reverse (backV v) (backH h) l.reverse=runR s sc v h l:=by
 unfold runR;rw[Ztw hs hv]
 by_cases h1:runE s l=0
 ·rw[qK h1,qK (runE_back.2 h1)]
 rw[qJ h1,qJ (fun x=>h1 (runE_back.1 x))]
def ruleH(r:Rul):Bool:=decide (12<r.on.length)||decide (12<r.steps.length)||decide (300<sizeE r.cond)||anyN r.steps.length fun i=>decide (300<sizeE (r.steps.getD i default).expr)
def bigC(c:RuC):Bool:=decide (100<c.s.home.clusters.length∨30<c.s.home.devices.length∨30<c.s.modes.length∨300<c.s.scenes.length∨20<c.sc.length∨20<c.l.length∨100<c.v.items.length∨30<c.v.members.length∨50<c.h.changed.length∨50<c.h.events.length∨50<c.h.held.length)
def greatR(c:RuC):Bool:=bigC c ||(anyN c.sc.length fun i=>decide (60<(c.sc.getD i default).items.length))||anyN c.l.length fun i=>ruleH (c.l.getD i default)
set_option maxHeartbeats 4000000 in
theorem Z50(c:RuC)(hc:smallRuC c):AC Tryz.prog 9 [.pv (.agg (cRuC c))] [] (.pv (vbool (greatR c))) []:=by
 have hbig:bigC c=true->greatR c=true:=fun h=>by unfold greatR;rw[h];rfl
 unfold bigC at hbig;rw[Q0]at hbig;have hl:=hc.l.2;refine AC.of_awp (T:=T) T_ok hm Tryz.call9 Tryz.func9 rfl rfl rfl ?_
 conv=>whnf
 repeat(any_goals((first|refine⟨QT ?_,QF ?_⟩<;>intro h<;>(try simp only[Q0,Q1,Q2,Q3,Q4,Q5,Q6,Q7,Q8,reduceCtorEq]at h))<;>conv=>whnf))
 all_goals first
  |(exact PSub.lit_sb (hbig (by omega)).symm)
  |skip
 have hb:bigC c=false:=qG (by omega);have hcut:greatR c=((anyN c.sc.length fun i=>decide (60<(c.sc.getD i default).items.length))||anyN c.l.length fun i=>ruleH (c.l.getD i default)):=by
  unfold greatR;rw[hb,Bool.false_or]
 rw[hcut];clear hcut hb hbig;refine loop_k (ι:=Nat) [1] [1] (fun k=>k<=c.sc.length∧(∀j,j<k->decide (60<(c.sc.getD j default).items.length)=false)) (fun k=>c.sc.length-k) 0 (fun k=>[(3,.pv (vint k))]) (fun _=>[]) [] ⟨qe _,fun j h=>absurd h (by omega)⟩ ?_ (fun k hk=>?_)
 ·exact QD
 obtain⟨hkn,hinv⟩:=hk
 conv=>whnf
 repeat(any_goals((first|refine⟨QT ?_,QF ?_⟩<;>intro h<;>(try simp only[Q0,Q1,Q2,Q3,Q4,Q5,Q6,Q7,Q8,reduceCtorEq]at h)|refine QI ?_|refine .inl ⟨wrap64 (by omega),?_⟩)<;>conv=>whnf))
 ·refine PSub.lit_sb ?_;rw[Z0a (k:=k) (by omega) (qB (by omega)),Bool.true_or]
 ·refine⟨k+1,[],⟨by omega,?_⟩,by first|omega|(dsimp only;omega),?_⟩;rotate_left
  ·exact QD
  intro j hj
  by_cases e:j=k
  ·subst e;exact qG (by omega)
  exact hinv j (by omega)
 have hn0:(anyN c.sc.length fun i=>decide (60<(c.sc.getD i default).items.length))=false:=Z0d fun j hj=>hinv j (by omega)
 rw[hn0,Bool.false_or];clear hinv hn0;refine loop_k (ι:=Nat) [1] [1] (fun k=>k<=c.l.length∧(∀j,j<k->ruleH (c.l.getD j default)=false)) (fun k=>c.l.length-k) 0 (fun k=>[(4,.pv (vint k))]) (fun _=>[]) [] ⟨qe _,fun j h=>absurd h (by omega)⟩ ?_ (fun k hk=>?_)
 ·exact QD
 obtain⟨hkn,hinv⟩:=hk
 conv=>whnf
 refine⟨fun h=>?_,fun h=>?_⟩<;>(try simp only[Q0,Q1,Q2,Q3,Q4,Q5,Q6,Q7,Q8,reduceCtorEq]at h)<;>(conv=>whnf)
 ·have hg:=hl k (by omega)
  repeat(any_goals((first|refine⟨QT ?_,QF ?_⟩<;>intro h<;>(try simp only[Q0,Q1,Q2,Q3,Q4,Q5,Q6,Q7,Q8,reduceCtorEq]at h)|refine .inl ⟨_,Z8d (c.l.getD k default).cond hg.1,?_⟩|refine QI ?_)<;>conv=>whnf))
  ·exact PSub.lit_sb (Z0a (k:=k) (by omega) (by unfold ruleH;rw[qB (show 12<(c.l.getD k default).on.length by omega)];rfl)).symm
  ·exact PSub.lit_sb (Z0a (k:=k) (by omega) (by unfold ruleH;rw[qB (show 12<(c.l.getD k default).steps.length by omega),Bool.or_true];rfl)).symm
  ·exact PSub.lit_sb (Z0a (k:=k) (by omega) (by unfold ruleH;rw[qB (show 300<sizeE (c.l.getD k default).cond by omega),Bool.or_true];rfl)).symm
  have hrg:ruleH (c.l.getD k default)=anyN (c.l.getD k default).steps.length fun i=>decide (300<sizeE ((c.l.getD k default).steps.getD i default).expr):=by
   unfold ruleH;rw[qG (by omega),qG (by omega),qG (by omega)];rfl
  have hinv0:=hinv;have hkn0:=hkn;refine loop_k (ι:=Nat) [1,4,5] [1,5] (fun q=>q<=(c.l.getD k default).steps.length∧∀j,j<q->decide (300<sizeE ((c.l.getD k default).steps.getD j default).expr)=false) (fun q=>(c.l.getD k default).steps.length-q) 0 (fun q=>[(6,.pv (vint q))]) (fun _=>[]) [] ⟨qe _,fun j h=>absurd h (by omega)⟩ ?_ (fun q hk=>?_)
  ·exact QD
  obtain⟨hkn,hinv⟩:=hk
  conv=>whnf
  refine⟨fun h=>?_,fun h=>?_⟩<;>(try simp only[Q0,Q1,Q2,Q3,Q4,Q5,Q6,Q7,Q8,reduceCtorEq]at h)<;>(conv=>whnf)
  ·have hg2:=hg.2 q (by omega)
   repeat(any_goals((first|refine⟨QT ?_,QF ?_⟩<;>intro h<;>(try simp only[Q0,Q1,Q2,Q3,Q4,Q5,Q6,Q7,Q8,reduceCtorEq]at h)|refine .inl ⟨_,Z8d ((c.l.getD k default).steps.getD q default).expr hg2,?_⟩|refine QI ?_|refine .inl ⟨wrap64 (by omega),?_⟩)<;>conv=>whnf))
   ·exact PSub.lit_sb (Z0a (k:=k) (by omega) (by rw[hrg];exact Z0a (k:=q) (by omega) (qB (by omega)))).symm
   refine⟨q+1,[],⟨by omega,?_⟩,by first|omega|(dsimp only;omega),?_⟩;rotate_left
   ·exact QD
   intro j hj
   by_cases e:j=q
   ·subst e;exact qG (by omega)
   exact hinv j (by omega)
  repeat(any_goals((first|refine .inl ⟨wrap64 (by omega),?_⟩)<;>conv=>whnf))
  refine⟨k+1,[],⟨by omega,?_⟩,by first|omega|(dsimp only;omega),?_⟩;rotate_left
  ·exact QD
  intro j hj
  by_cases e:j=k
  ·subst e;rw[hrg];exact Z0d fun i hi=>hinv i (by omega)
  exact hinv0 j (by omega)
 exact PSub.lit_sb (Z0d fun j hj=>hinv j (by omega)).symm
def unlikeB(c:RuC):Bool:=!(anyN c.v.items.length fun k=>anyN k fun i=>decide ((c.v.items.getD k default).key=(c.v.items.getD i default).key))&&decide ((sortS (c.sc.map Scene.name)).length=(c.sc.map Scene.name).length)&&decide ((sortS (c.v.members.map Mem.name)).length=(c.v.members.map Mem.name).length)
theorem Zip{c:RuC}(h:unlikeB c=true):(c.v.items.map Item.key).Nodup∧(c.sc.map Scene.name).Nodup:=by
 unfold unlikeB at h;simp only[qc,Q2,Q0]at h;obtain⟨⟨h1,h2⟩,h3⟩:=h;refine⟨?_,Zi1 h2⟩;rw[List.nodup_iff_pairwise_ne,List.pairwise_iff_getElem];intro i j hi hj hij e;rw[List.length_map]at hi hj;rw[List.getElem_map,List.getElem_map]at e;have:(anyN c.v.items.length fun k=>anyN k fun i=>decide ((c.v.items.getD k default).key=(c.v.items.getD i default).key))=true:=
  Z0a hj (Z0a hij (qB (by rw[Z03 _ _ hj,Z03 _ _ hi];exact e.symm)))
 rw[this]at h1;cases h1
set_option maxHeartbeats 2000000 in
theorem Zk2(c:RuC)(hc:smallRuC c):AC Tryz.prog 16 [.pv (.agg (cRuC c))] [] (.pv (vbool (unlikeB c))) []:=by
 have hl1:c.sc.length<=1048576:=hc.sc.1;have hl2:c.v.items.length<=1048576:=hc.v.1;have hl3:c.v.members.length<=1048576:=hc.v.2;refine AC.of_awp (T:=T) T_ok hm Tryz.call16 Tryz.func16 rfl rfl rfl ?_
 conv=>whnf
 refine loop_k (ι:=Nat) [1,4] [1] (fun k=>k<=c.sc.length) (fun k=>c.sc.length-k) 0 (fun k=>[(3,.own 500),(5,.pv (vint k))]) (fun k=>[(500,rowL 1 cstr ((c.sc.take k).map Scene.name))]) [] (qe _) ?_ (fun k hk=>?_)
 ·(repeat'(first|exact QC|refine qa ?_ ?_))
  all_goals(intro i hi;exact absurd hi (by simp))
 have hkl:((c.sc.take k).map Scene.name).length=k:=by rw[List.length_map,qq];omega
 conv=>whnf
 refine⟨fun h=>?_,fun h=>?_⟩<;>(try simp only[Q0,Q1,Q2,Q3,Q4,Q5,Q6,Q7,Q8,reduceCtorEq]at h)<;>(conv=>whnf)
 ·have hk2:k<c.sc.length:=by omega
  repeat(any_goals((first|refine QI ?_|refine .inl ⟨wrap64 (by omega),?_⟩)<;>conv=>whnf))
  refine⟨k+1,[(500,24)],by omega,by omega,?_⟩;rw[Z09 hk2,List.map_append]
  conv=>whnf
  (repeat'(first|exact QC|refine qa ?_ ?_))
  all_goals first
   |(simp;done)
   |skip
  all_goals
   refine Z05 (fun i hi=>by simp only[qK hi];exact PSubs.rfl) (by simp only[qJ (qM _),Nat.sub_self];exact PSubs.rfl)
 have e:k=c.sc.length:=by omega
 subst e;rw[List.take_length]
 conv=>whnf
 refine loop_k (ι:=Nat) [1] [1] (fun k=>k<=c.v.members.length) (fun k=>c.v.members.length-k) 0 (fun k=>[(3,.pv (roL 1 cstr (c.sc.map Scene.name))),(4,.own 501),(6,.pv (vint k))]) (fun k=>[(501,rowL 1 cstr ((c.v.members.take k).map Mem.name))]) [] (qe _) ?_ (fun k hk=>?_)
 ·(repeat'(first|exact QC|refine qa ?_ ?_))
  all_goals first
   |(intro i hi;exact absurd hi (by simp);done)
   |(intro i hi;exact PSubs.rfl)
 have hkl:((c.v.members.take k).map Mem.name).length=k:=by rw[List.length_map,qq];omega
 conv=>whnf
 refine⟨fun h=>?_,fun h=>?_⟩<;>(try simp only[Q0,Q1,Q2,Q3,Q4,Q5,Q6,Q7,Q8,reduceCtorEq]at h)<;>(conv=>whnf)
 ·have hk2:k<c.v.members.length:=by omega
  repeat(any_goals((first|refine QI ?_|refine .inl ⟨wrap64 (by omega),?_⟩)<;>conv=>whnf))
  refine⟨k+1,[(501,42)],by omega,by omega,?_⟩;rw[Z09 hk2,List.map_append]
  conv=>whnf
  (repeat'(first|exact QC|refine qa ?_ ?_))
  all_goals first
   |(simp;done)
   |skip
  all_goals
   refine Z05 (fun i hi=>by simp only[qK hi];exact PSubs.rfl) (by simp only[qJ (qM _),Nat.sub_self];exact PSubs.rfl)
 have e:k=c.v.members.length:=by omega
 subst e;rw[List.take_length]
 conv=>whnf
 refine loop_k (ι:=Nat) [1] [1] (fun k=>k<=c.v.items.length∧∀j,j<k->(anyN j fun i=>decide ((c.v.items.getD j default).key=(c.v.items.getD i default).key))=false) (fun k=>c.v.items.length-k) 0 (fun k=>[(3,.pv (roL 1 cstr (c.sc.map Scene.name))),(4,.pv (roL 1 cstr (c.v.members.map Mem.name))),(7,.pv (vint k))]) (fun k=>[]) [] ⟨qe _,fun j h=>absurd h (by omega)⟩ ?_ (fun k hk=>?_)
 ·(repeat'(first|exact QC|refine qa ?_ ?_))
  all_goals(intro i hi;exact PSubs.rfl)
 obtain⟨hk,hinv⟩:=hk
 conv=>whnf
 refine⟨fun h=>?_,fun h=>?_⟩<;>(try simp only[Q0,Q1,Q2,Q3,Q4,Q5,Q6,Q7,Q8,reduceCtorEq]at h)<;>(conv=>whnf)
 ·have hk2:k<c.v.items.length:=by omega
  skip
  have hinv0:=hinv;refine loop_k (ι:=Nat) [1,3,4,7] [1] (fun q=>q<=k∧(∀j,j<q->decide ((c.v.items.getD k default).key=(c.v.items.getD j default).key)=false)) (fun q=>k-q) 0 (fun q=>[(8,.pv (vint q))]) (fun _=>[]) [] ⟨qe _,fun j h=>absurd h (by omega)⟩ ?_ (fun q hk=>?_)
  ·exact QD
  obtain⟨hkn,hinv⟩:=hk
  conv=>whnf
  repeat(any_goals((first|refine⟨QT ?_,QF ?_⟩<;>intro h<;>(try simp only[Q0,Q1,Q2,Q3,Q4,Q5,Q6,Q7,Q8,reduceCtorEq]at h)|refine QI ?_|refine QK ?_|refine .inl ⟨wrap64 (by omega),?_⟩)<;>conv=>whnf))
  ·have e:=qC ((key_eq _ _).symm.trans h);refine PSub.lit_sb ?_;unfold unlikeB;rw[Z0a hk2 (Z0a (show q<k by omega) (qB e))];rfl
  ·have e:=(key_eq _ _).symm.trans h;refine⟨q+1,[],⟨by omega,?_⟩,by first|omega|(dsimp only;omega),?_⟩;rotate_left
   ·exact QD
   intro j hj
   by_cases e2:j=q
   ·subst e2;exact e
   exact hinv j (by omega)
  refine⟨k+1,[],⟨by omega,?_⟩,by first|omega|(dsimp only;omega),?_⟩;rotate_left
  ·exact QD
  intro j hj
  by_cases e:j=k
  ·subst e;exact Z0d fun i hi=>hinv i (by omega)
  exact hinv0 j (by omega)
 have hany:(anyN c.v.items.length fun k=>anyN k fun i=>decide ((c.v.items.getD k default).key=(c.v.items.getD i default).key))=false:=Z0d fun j hj=>hinv j (by omega)
 unfold unlikeB;rw[hany]
 repeat(any_goals((first|refine⟨QT ?_,QF ?_⟩<;>intro h<;>(try simp only[Q0,Q1,Q2,Q3,Q4,Q5,Q6,Q7,Q8,reduceCtorEq]at h)|refine .inl ⟨_,Z51 (c.sc.map Scene.name) (by rw[List.length_map];exact hl1),?_⟩|refine .inl ⟨_,Z51 (c.v.members.map Mem.name) (by rw[List.length_map];exact hl3),?_⟩)<;>conv=>whnf))
 ·refine PSub.sb ?_;have e1:(sortS (c.sc.map Scene.name)).length=(c.sc.map Scene.name).length:=by omega
  rw[qB e1];show _=decide _
  exact Q6.2 (by omega)
 refine PSub.lit_sb ?_;have e1:¬(sortS (c.sc.map Scene.name)).length=(c.sc.map Scene.name).length:=by omega
 rw[qG e1];rfl
def backC(c:RuC):RuC:=⟨c.s,c.sc.reverse,c.l.reverse,backV c.v,backH c.h⟩
def nilV:AV:=.pv (.val (.slice none 0 0))
def bakB(c:RuC)(a b d e f g h:AV):AObj:=.box ((cSco c.s).map .pv ++ [a,b,d,.pv (vstr c.v.mode),.pv (vint c.v.minute),e,f,g,.pv (vint c.h.fr),.pv (vint c.h.to),.pv (vstr c.h.mode),.pv (vbool c.h.start),h])
theorem Z3q{α:Type}[Inhabited α]{l:List α}{k:Nat}(h:k<l.length):l.reverse.take (k+1)=l.reverse.take k ++ [l.getD (l.length-1-k) default]:=by
 rw[Z09 (by rw[qH];exact h)];congr 2;rw[Z03 _ _ (by rw[qH];exact h),Z03 _ _ (by omega),List.getElem_reverse]
set_option maxHeartbeats 4000000 in
theorem Zk0(c:RuC)(hc:smallRuC c):AC Tryz.prog 17 [.pv (.agg (cRuC c))] [] (.pv (.agg (cRuC (backC c)))) []:=by
 have hl0:c.sc.length<=1048576:=hc.sc.1;have hl1:c.l.length<=1048576:=hc.l.1;have hl2:c.v.items.length<=1048576:=hc.v.1;have hl3:c.v.members.length<=1048576:=hc.v.2;have hl4:c.h.changed.length<=1048576:=hc.h.c;have hl5:c.h.events.length<=1048576:=hc.h.e;have hl6:c.h.held.length<=1048576:=hc.h.h;refine AC.of_awp (T:=T) T_ok hm Tryz.call17 Tryz.func17 rfl rfl rfl ?_
 conv=>whnf
 repeat(any_goals((first|refine .inl ⟨wrap64 (by omega),?_⟩)<;>conv=>whnf))
 refine loop_k (ι:=Nat) [1,2,3] [1,2] (fun k=>k<=c.sc.length) (fun k=>c.sc.length-k) 0 (fun k=>[(4,.pv (vint ((c.sc.length:Int)-1-k)))]) (fun k=>[(3,bakB c (.own 510) nilV nilV nilV nilV nilV nilV),(510,rowL 2 cSce (c.sc.reverse.take k))]) [] (qe _) ?_ (fun k hk=>?_)
 ·conv=>whnf
  (repeat'(first|exact QC|refine qa ?_ ?_))
  all_goals first
   |(intro i hi;exact absurd hi (by simp);done)
   |(intro i hi;exact PSubs.rfl)
   |exact PSub.int (by omega)
   |trace_state
 have hkl:(c.sc.reverse.take k).length=k:=by rw[qq,qH];omega
 have hti:((c.sc.length:Int)-1-(k:Int)).toNat=c.sc.length-1-k:=by omega
 conv=>whnf
 refine⟨fun h=>?_,fun h=>?_⟩<;>(try simp only[Q0,Q1,Q2,Q3,Q4,Q5,Q6,Q7,Q8,reduceCtorEq]at h)<;>(conv=>whnf)
 ·have hk2:k<c.sc.length:=by omega
  repeat(any_goals((first|refine QI ?_|refine QK ?_|refine .inl ⟨wrap64 (by omega),?_⟩)<;>conv=>whnf))
  refine⟨k+1,[(510,50)],by omega,by omega,?_⟩;rw[Z3q hk2];simp only[hti]
  conv=>whnf
  (repeat'(first|exact QC|refine qa ?_ ?_))
  all_goals first
   |(simp;done)
   |exact PSub.int (by omega)
   |(refine Z05 (fun i hi=>by simp only[qK hi];exact PSubs.rfl) (by simp only[qJ (qM _),Nat.sub_self];exact PSubs.rfl))
   |trace_state
 have e:k=c.sc.length:=by omega
 subst e;rw[show c.sc.reverse.take c.sc.length=c.sc.reverse from List.take_of_length_le (by rw[qH];exact qL _)];clear hk hkl hti
 repeat(any_goals((first|refine .inl ⟨wrap64 (by omega),?_⟩)<;>conv=>whnf))
 refine loop_k (ι:=Nat) [1,2,3] [1,2] (fun k=>k<=c.l.length) (fun k=>c.l.length-k) 0 (fun k=>[(5,.pv (vint ((c.l.length:Int)-1-k)))]) (fun k=>[(3,bakB c (.pv (roL 2 cSce c.sc.reverse)) (.own 511) nilV nilV nilV nilV nilV),(511,rowL 15 cRul (c.l.reverse.take k))]) [] (qe _) ?_ (fun k hk=>?_)
 ·conv=>whnf
  (repeat'(first|exact QC|refine qa ?_ ?_))
  all_goals first
   |(intro i hi;exact absurd hi (by simp);done)
   |(intro i hi;exact PSubs.rfl)
   |exact PSub.int (by omega)
   |trace_state
 have hkl:(c.l.reverse.take k).length=k:=by rw[qq,qH];omega
 have hti:((c.l.length:Int)-1-(k:Int)).toNat=c.l.length-1-k:=by omega
 conv=>whnf
 refine⟨fun h=>?_,fun h=>?_⟩<;>(try simp only[Q0,Q1,Q2,Q3,Q4,Q5,Q6,Q7,Q8,reduceCtorEq]at h)<;>(conv=>whnf)
 ·have hk2:k<c.l.length:=by omega
  repeat(any_goals((first|refine QI ?_|refine QK ?_|refine .inl ⟨wrap64 (by omega),?_⟩)<;>conv=>whnf))
  refine⟨k+1,[(511,68)],by omega,by omega,?_⟩;rw[Z3q hk2];simp only[hti]
  conv=>whnf
  (repeat'(first|exact QC|refine qa ?_ ?_))
  all_goals first
   |(simp;done)
   |exact PSub.int (by omega)
   |(refine Z05 (fun i hi=>by simp only[qK hi];exact PSubs.rfl) (by simp only[qJ (qM _),Nat.sub_self];exact PSubs.rfl))
   |trace_state
 have e:k=c.l.length:=by omega
 subst e;rw[show c.l.reverse.take c.l.length=c.l.reverse from List.take_of_length_le (by rw[qH];exact qL _)];clear hk hkl hti
 repeat(any_goals((first|refine .inl ⟨wrap64 (by omega),?_⟩)<;>conv=>whnf))
 refine loop_k (ι:=Nat) [1,2,3] [1,2] (fun k=>k<=c.v.items.length) (fun k=>c.v.items.length-k) 0 (fun k=>[(6,.pv (vint ((c.v.items.length:Int)-1-k)))]) (fun k=>[(3,bakB c (.pv (roL 2 cSce c.sc.reverse)) (.pv (roL 15 cRul c.l.reverse)) (.own 512) nilV nilV nilV nilV),(512,rowL 7 cItem (c.v.items.reverse.take k))]) [] (qe _) ?_ (fun k hk=>?_)
 ·conv=>whnf
  (repeat'(first|exact QC|refine qa ?_ ?_))
  all_goals first
   |(intro i hi;exact absurd hi (by simp);done)
   |(intro i hi;exact PSubs.rfl)
   |exact PSub.int (by omega)
   |trace_state
 have hkl:(c.v.items.reverse.take k).length=k:=by rw[qq,qH];omega
 have hti:((c.v.items.length:Int)-1-(k:Int)).toNat=c.v.items.length-1-k:=by omega
 conv=>whnf
 refine⟨fun h=>?_,fun h=>?_⟩<;>(try simp only[Q0,Q1,Q2,Q3,Q4,Q5,Q6,Q7,Q8,reduceCtorEq]at h)<;>(conv=>whnf)
 ·have hk2:k<c.v.items.length:=by omega
  repeat(any_goals((first|refine QI ?_|refine QK ?_|refine .inl ⟨wrap64 (by omega),?_⟩)<;>conv=>whnf))
  refine⟨k+1,[(512,89)],by omega,by omega,?_⟩;rw[Z3q hk2];simp only[hti]
  conv=>whnf
  (repeat'(first|exact QC|refine qa ?_ ?_))
  all_goals first
   |(simp;done)
   |exact PSub.int (by omega)
   |(refine Z05 (fun i hi=>by simp only[qK hi];exact PSubs.rfl) (by simp only[qJ (qM _),Nat.sub_self];exact PSubs.rfl))
   |trace_state
 have e:k=c.v.items.length:=by omega
 subst e;rw[show c.v.items.reverse.take c.v.items.length=c.v.items.reverse from List.take_of_length_le (by rw[qH];exact qL _)];clear hk hkl hti
 repeat(any_goals((first|refine .inl ⟨wrap64 (by omega),?_⟩)<;>conv=>whnf))
 refine loop_k (ι:=Nat) [1,2,3] [1,2] (fun k=>k<=c.v.members.length) (fun k=>c.v.members.length-k) 0 (fun k=>[(7,.pv (vint ((c.v.members.length:Int)-1-k)))]) (fun k=>[(3,bakB c (.pv (roL 2 cSce c.sc.reverse)) (.pv (roL 15 cRul c.l.reverse)) (.pv (roL 7 cItem c.v.items.reverse)) (.own 513) nilV nilV nilV),(513,rowL 5 cMem (c.v.members.reverse.take k))]) [] (qe _) ?_ (fun k hk=>?_)
 ·conv=>whnf
  (repeat'(first|exact QC|refine qa ?_ ?_))
  all_goals first
   |(intro i hi;exact absurd hi (by simp);done)
   |(intro i hi;exact PSubs.rfl)
   |exact PSub.int (by omega)
   |trace_state
 have hkl:(c.v.members.reverse.take k).length=k:=by rw[qq,qH];omega
 have hti:((c.v.members.length:Int)-1-(k:Int)).toNat=c.v.members.length-1-k:=by omega
 conv=>whnf
 refine⟨fun h=>?_,fun h=>?_⟩<;>(try simp only[Q0,Q1,Q2,Q3,Q4,Q5,Q6,Q7,Q8,reduceCtorEq]at h)<;>(conv=>whnf)
 ·have hk2:k<c.v.members.length:=by omega
  repeat(any_goals((first|refine QI ?_|refine QK ?_|refine .inl ⟨wrap64 (by omega),?_⟩)<;>conv=>whnf))
  refine⟨k+1,[(513,111)],by omega,by omega,?_⟩;rw[Z3q hk2];simp only[hti]
  conv=>whnf
  (repeat'(first|exact QC|refine qa ?_ ?_))
  all_goals first
   |(simp;done)
   |exact PSub.int (by omega)
   |(refine Z05 (fun i hi=>by simp only[qK hi];exact PSubs.rfl) (by simp only[qJ (qM _),Nat.sub_self];exact PSubs.rfl))
   |trace_state
 have e:k=c.v.members.length:=by omega
 subst e;rw[show c.v.members.reverse.take c.v.members.length=c.v.members.reverse from List.take_of_length_le (by rw[qH];exact qL _)];clear hk hkl hti
 repeat(any_goals((first|refine .inl ⟨wrap64 (by omega),?_⟩)<;>conv=>whnf))
 refine loop_k (ι:=Nat) [1,2,3] [1,2] (fun k=>k<=c.h.changed.length) (fun k=>c.h.changed.length-k) 0 (fun k=>[(8,.pv (vint ((c.h.changed.length:Int)-1-k)))]) (fun k=>[(3,bakB c (.pv (roL 2 cSce c.sc.reverse)) (.pv (roL 15 cRul c.l.reverse)) (.pv (roL 7 cItem c.v.items.reverse)) (.pv (roL 5 cMem c.v.members.reverse)) (.own 514) nilV nilV),(514,rowL 3 cKey (c.h.changed.reverse.take k))]) [] (qe _) ?_ (fun k hk=>?_)
 ·conv=>whnf
  (repeat'(first|exact QC|refine qa ?_ ?_))
  all_goals first
   |(intro i hi;exact absurd hi (by simp);done)
   |(intro i hi;exact PSubs.rfl)
   |exact PSub.int (by omega)
   |trace_state
 have hkl:(c.h.changed.reverse.take k).length=k:=by rw[qq,qH];omega
 have hti:((c.h.changed.length:Int)-1-(k:Int)).toNat=c.h.changed.length-1-k:=by omega
 conv=>whnf
 refine⟨fun h=>?_,fun h=>?_⟩<;>(try simp only[Q0,Q1,Q2,Q3,Q4,Q5,Q6,Q7,Q8,reduceCtorEq]at h)<;>(conv=>whnf)
 ·have hk2:k<c.h.changed.length:=by omega
  repeat(any_goals((first|refine QI ?_|refine QK ?_|refine .inl ⟨wrap64 (by omega),?_⟩)<;>conv=>whnf))
  refine⟨k+1,[(514,133)],by omega,by omega,?_⟩;rw[Z3q hk2];simp only[hti]
  conv=>whnf
  (repeat'(first|exact QC|refine qa ?_ ?_))
  all_goals first
   |(simp;done)
   |exact PSub.int (by omega)
   |(refine Z05 (fun i hi=>by simp only[qK hi];exact PSubs.rfl) (by simp only[qJ (qM _),Nat.sub_self];exact PSubs.rfl))
   |trace_state
 have e:k=c.h.changed.length:=by omega
 subst e;rw[show c.h.changed.reverse.take c.h.changed.length=c.h.changed.reverse from List.take_of_length_le (by rw[qH];exact qL _)];clear hk hkl hti
 repeat(any_goals((first|refine .inl ⟨wrap64 (by omega),?_⟩)<;>conv=>whnf))
 refine loop_k (ι:=Nat) [1,2,3] [1,2] (fun k=>k<=c.h.events.length) (fun k=>c.h.events.length-k) 0 (fun k=>[(9,.pv (vint ((c.h.events.length:Int)-1-k)))]) (fun k=>[(3,bakB c (.pv (roL 2 cSce c.sc.reverse)) (.pv (roL 15 cRul c.l.reverse)) (.pv (roL 7 cItem c.v.items.reverse)) (.pv (roL 5 cMem c.v.members.reverse)) (.pv (roL 3 cKey c.h.changed.reverse)) (.own 515) nilV),(515,rowL 3 cKey (c.h.events.reverse.take k))]) [] (qe _) ?_ (fun k hk=>?_)
 ·conv=>whnf
  (repeat'(first|exact QC|refine qa ?_ ?_))
  all_goals first
   |(intro i hi;exact absurd hi (by simp);done)
   |(intro i hi;exact PSubs.rfl)
   |exact PSub.int (by omega)
   |trace_state
 have hkl:(c.h.events.reverse.take k).length=k:=by rw[qq,qH];omega
 have hti:((c.h.events.length:Int)-1-(k:Int)).toNat=c.h.events.length-1-k:=by omega
 conv=>whnf
 refine⟨fun h=>?_,fun h=>?_⟩<;>(try simp only[Q0,Q1,Q2,Q3,Q4,Q5,Q6,Q7,Q8,reduceCtorEq]at h)<;>(conv=>whnf)
 ·have hk2:k<c.h.events.length:=by omega
  repeat(any_goals((first|refine QI ?_|refine QK ?_|refine .inl ⟨wrap64 (by omega),?_⟩)<;>conv=>whnf))
  refine⟨k+1,[(515,155)],by omega,by omega,?_⟩;rw[Z3q hk2];simp only[hti]
  conv=>whnf
  (repeat'(first|exact QC|refine qa ?_ ?_))
  all_goals first
   |(simp;done)
   |exact PSub.int (by omega)
   |(refine Z05 (fun i hi=>by simp only[qK hi];exact PSubs.rfl) (by simp only[qJ (qM _),Nat.sub_self];exact PSubs.rfl))
   |trace_state
 have e:k=c.h.events.length:=by omega
 subst e;rw[show c.h.events.reverse.take c.h.events.length=c.h.events.reverse from List.take_of_length_le (by rw[qH];exact qL _)];clear hk hkl hti
 repeat(any_goals((first|refine .inl ⟨wrap64 (by omega),?_⟩)<;>conv=>whnf))
 refine loop_k (ι:=Nat) [1,2,3] [1,2] (fun k=>k<=c.h.held.length) (fun k=>c.h.held.length-k) 0 (fun k=>[(10,.pv (vint ((c.h.held.length:Int)-1-k)))]) (fun k=>[(3,bakB c (.pv (roL 2 cSce c.sc.reverse)) (.pv (roL 15 cRul c.l.reverse)) (.pv (roL 7 cItem c.v.items.reverse)) (.pv (roL 5 cMem c.v.members.reverse)) (.pv (roL 3 cKey c.h.changed.reverse)) (.pv (roL 3 cKey c.h.events.reverse)) (.own 516)),(516,rowL 1 cstr (c.h.held.reverse.take k))]) [] (qe _) ?_ (fun k hk=>?_)
 ·conv=>whnf
  (repeat'(first|exact QC|refine qa ?_ ?_))
  all_goals first
   |(intro i hi;exact absurd hi (by simp);done)
   |(intro i hi;exact PSubs.rfl)
   |exact PSub.int (by omega)
   |trace_state
 have hkl:(c.h.held.reverse.take k).length=k:=by rw[qq,qH];omega
 have hti:((c.h.held.length:Int)-1-(k:Int)).toNat=c.h.held.length-1-k:=by omega
 conv=>whnf
 refine⟨fun h=>?_,fun h=>?_⟩<;>(try simp only[Q0,Q1,Q2,Q3,Q4,Q5,Q6,Q7,Q8,reduceCtorEq]at h)<;>(conv=>whnf)
 ·have hk2:k<c.h.held.length:=by omega
  repeat(any_goals((first|refine QI ?_|refine QK ?_|refine .inl ⟨wrap64 (by omega),?_⟩)<;>conv=>whnf))
  refine⟨k+1,[(516,177)],by omega,by omega,?_⟩;rw[Z3q hk2];simp only[hti]
  conv=>whnf
  (repeat'(first|exact QC|refine qa ?_ ?_))
  all_goals first
   |(simp;done)
   |exact PSub.int (by omega)
   |(refine Z05 (fun i hi=>by simp only[qK hi];exact PSubs.rfl) (by simp only[qJ (qM _),Nat.sub_self];exact PSubs.rfl))
   |trace_state
 have e:k=c.h.held.length:=by omega
 subst e;rw[show c.h.held.reverse.take c.h.held.length=c.h.held.reverse from List.take_of_length_le (by rw[qH];exact qL _)];clear hk hkl hti
 conv=>whnf
 exact PSub.rfl
theorem Z4u{α:Type}{l:List α}(h:smallL l):smallL l.reverse:=by
 show _<=_;rw[qH];exact h
theorem Zqt{l:List Scene}(h:∀i,i<l.length->smallL (l.getD i default).items):∀i,i<l.reverse.length->smallL (l.reverse.getD i default).items:=by
 intro i hi;have hm:l.reverse.getD i default∈l:=by rw[Z03 _ _ hi];exact List.mem_reverse.1 (qE _)
 obtain⟨j,hj,e⟩:=qp hm;rw[<-e,<-Z03 _ _ hj];exact h j hj
theorem Zxf(c:RuC)(hc:smallRuC c):AC Tryz.prog 5 [.pv (.agg (cRuC c))] [] (.pv (vbool true)) []:=by
 have r1:=Z2a c.s c.sc c.v c.h c.l hc.s hc.sc.1 hc.sc.2 hc.v hc.h;have r2:=Z2a c.s c.sc.reverse (backV c.v) (backH c.h) c.l.reverse hc.s (Z4u hc.sc.1) (Zqt hc.sc.2) ⟨Z4u hc.v.1,Z4u hc.v.2⟩ ⟨Z4u hc.h.c,Z4u hc.h.e,Z4u hc.h.h⟩;have he:decide (runE c.s c.l.reverse=0)=decide (runE c.s c.l=0):=Q6.2 runE_back;have hu:unlikeB c=true->runR c.s c.sc.reverse (backV c.v) (backH c.h) c.l.reverse=runR c.s c.sc c.v c.h c.l:=fun h=>Ztt (Zip h).2 (Zip h).1
 have r3:=Z54 (runR c.s c.sc c.v c.h c.l) (runR c.s c.sc.reverse (backV c.v) (backH c.h) c.l.reverse) Z5y;generalize runR c.s c.sc c.v c.h c.l=o at *;generalize runR c.s c.sc.reverse (backV c.v) (backH c.h) c.l.reverse=o2 at *;generalize runE c.s c.l=e at *;generalize runE c.s c.l.reverse=e2 at *;refine AC.of_awp (T:=T) T_ok hm Tryz.call5 Tryz.func5 rfl rfl rfl ?_
 conv=>whnf
 repeat(any_goals((first|refine⟨QT ?_,QF ?_⟩<;>intro h<;>(try simp only[Q0,Q1,Q2,Q3,Q4,Q5,Q6,Q7,Q8,reduceCtorEq]at h)|refine .inl ⟨_,Z50 c hc,?_⟩|refine .inl ⟨_,Zk2 c hc,?_⟩|refine .inl ⟨_,Zk0 c hc,?_⟩|refine .inl ⟨_,Z2w,?_⟩|refine .inl ⟨_,r1,?_⟩|refine .inl ⟨_,r2,?_⟩|refine .inl ⟨_,r3,?_⟩)<;>conv=>whnf))
 all_goals first
  |exact PSub.rfl
  |exact PSub.sb (qB rfl)
  |exact PSub.lit_sb rfl
  |(exfalso;exact h (hu (by assumption)).symm)
  |(exfalso;exact h (Q6.1 he).symm)
end Go.Abs
