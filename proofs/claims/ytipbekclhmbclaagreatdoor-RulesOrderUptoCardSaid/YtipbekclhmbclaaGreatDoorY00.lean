/- YtipbekclhmbclaaGreatDoorY00: walks and contracts. -/
import Derived.Test.YtipbekclhmbclaaGreatDoorX09
import Derived.Laws.RangeString
import Derived.Shelf.SlSortCmp.Insertion

set_option linter.unusedVariables false
set_option linter.unusedSimpArgs false
set_option linter.unusedSectionVars false

namespace Go.Abs
open Go.Proofs
theorem Z02i (l:List ByteArray) (x:ByteArray) (hl:l.length≤1048576):AC Tryz.prog 18 [.pv (roL 1 cstr l),.pv (vstr x)] [] (.pv (vint (idxOf l x))) []:=by
 refine AC.of_awp (T:=T) T_ok hm Tryz.call18 Tryz.func18 rfl rfl rfl ?_
 conv=>whnf
 refine⟨Nat,fun k=>k≤l.length∧∀ j,j < k→l.getD j default≠x,fun k=>⟨[(0,.pv (roL 1 cstr l)),(1,.pv (vstr x)),(5,.pv (vint k))],[]⟩,fun k=>l.length - k,0,[],⟨Nat.zero_le _,fun j h=>absurd h (by omega)⟩,⟨.rfl,.rfl,.rfl⟩,fun k hk=>?_⟩
 conv=>whnf
 refine⟨fun h=>?_,fun h=>?_⟩
 ·simp only [decide_eq_true_eq] at h
  refine⟨by omega,?_⟩
  conv=>whnf
  refine⟨fun h2=>?_,fun h2=>?_⟩
  ·conv=>whnf
   simp only [decide_eq_true_eq] at h2
   exact PSub.int (by rw [Z0h6 (k:=k) (by omega) (by simpa using h2) hk.2])
  ·conv=>whnf
   refine .inl ⟨wrap64 (by omega),?_⟩
   conv=>whnf
   simp only [decide_eq_false_iff_not] at h2
   refine⟨k+1,[],⟨by omega,fun j hj=>?_⟩,by dsimp only;omega,.rfl,.rfl,.rfl⟩
   by_cases e:j=k
   ·subst e;simpa using h2
   ·exact hk.2 j (by omega)
 ·conv=>whnf
  simp only [decide_eq_false_iff_not] at h
  exact PSub.int (by rw [Z0h5 fun j hj=>hk.2 j (by omega)])
end Go.Abs
namespace Go.Abs
open Go.Proofs Go.RowKit
set_option maxRecDepth 10000
section
variable {H:Type} {enc:TypeId × Value→H} {w:World} {bulk:DataW H→Nat}
theorem Z0nx:Opens enc Tryz.prog w bulk BB 124 (fun n:Int=>[.val (.int .u64 n)]) (fun _=>True):=(Opens.int Tryz.underlying124).imp id (fun _=>rfl) (fun _ _=>trivial)
theorem Z0ne:Opens enc Tryz.prog w bulk BB 4 (fun b:Bool=>[vbool b]) (fun _=>True):=Opens.bool Tryz.underlying4
def goodItem (x:Item):Prop:=goodKey x.key∧goodVal x.value∧inI64 x.version
theorem Z0n2 (hB:BulkOk bulk):Opens enc Tryz.prog w bulk BB 107 cItem goodItem:=
 (Opens.struct hB Tryz.underlying107 (by kernel_rfl) (.cons (size:=3) rfl (by kernel_rfl) (op_Key hB) (.cons (size:=3) rfl (by kernel_rfl) (Z0nb hB) (.cons (size:=1) rfl (by kernel_rfl) op_int .nil)))).imp (fun x=>⟨x.1,x.2.1,x.2.2.1⟩) (fun _=>rfl) (fun _ h=>⟨h.1,h.2.1,h.2.2.1⟩)
def goodItems (l:List Item):Prop:=smallL l∧∀ i,i < l.length→goodItem (l.getD i default)
theorem Z0nl (hB:BulkOk bulk):Opens enc Tryz.prog w bulk BB 31 (fun l:List Item=>[roL 7 cItem l]) goodItems:=
 (Opens.slice hB Tryz.underlying31 (by kernel_rfl) (by decide) (Z0n2 hB)).imp id (fun _=>rfl) (fun _ h=>h)
theorem Z0mq (hB:BulkOk bulk):Opens enc Tryz.prog w bulk BB 70 cAttr smallA:=
 (Opens.struct hB Tryz.underlying70 (by kernel_rfl) (.cons (size:=1) rfl (by kernel_rfl) (Z0nw hB) (.cons (size:=1) rfl (by kernel_rfl) op_int (.cons (size:=1) rfl (by kernel_rfl) op_int (.cons (size:=1) rfl (by kernel_rfl) op_int (.cons (size:=1) rfl (by kernel_rfl) (Z0nu hB) (.cons (size:=1) rfl (by kernel_rfl) Z0ne (.cons (size:=1) rfl (by kernel_rfl) Z0ne .nil)))))))).imp
  (fun x=>⟨x.1,x.2.1,x.2.2.1,x.2.2.2.1,x.2.2.2.2.1,x.2.2.2.2.2.1,x.2.2.2.2.2.2.1⟩) (fun _=>rfl) (fun _ h=>h.2.2.2.2.1)
theorem Z0fz {α:Type} [Inhabited α] {l:List α} {p:α→Prop} (h:∀ i,i < l.length→p (l.getD i default)) (hd:p default) (i:Nat):p (l.getD i default):=by
 by_cases hi:i < l.length
 ·exact h i hi
 ·have:l.getD i default=default:=by simp [List.getD,Nat.le_of_not_lt hi]
  rw [this];exact hd
theorem Z0nf (hB:BulkOk bulk):Opens enc Tryz.prog w bulk BB 110 (fun l:List Attr=>[roL 7 cAttr l]) (fun l=>smallL l∧∀ i,smallA (l.getD i default)):=
 (Opens.slice hB Tryz.underlying110 (by kernel_rfl) (by decide) (Z0mq hB)).imp id (fun _=>rfl) (fun _ h=>⟨h.1,Z0fz h.2 (Nat.zero_le _)⟩)
theorem Z0mv (hB:BulkOk bulk):Opens enc Tryz.prog w bulk BB 160 cEff (fun _=>True):=
 (Opens.struct hB Tryz.underlying160 (by kernel_rfl) (.cons (size:=1) rfl (by kernel_rfl) op_int (.cons (size:=1) rfl (by kernel_rfl) (Z0nw hB) (.cons (size:=1) rfl (by kernel_rfl) op_int .nil)))).imp (fun x=>⟨x.1,x.2.1,x.2.2.1⟩) (fun _=>rfl) (fun _ _=>trivial)
theorem Z0nj (hB:BulkOk bulk):Opens enc Tryz.prog w bulk BB 155 (fun l:List Eff=>[roL 3 cEff l]) smallL:=
 (Opens.slice hB Tryz.underlying155 (by kernel_rfl) (by decide) (Z0mv hB)).imp id (fun _=>rfl) (fun _ h=>h.1)
theorem Z0mt (hB:BulkOk bulk):Opens enc Tryz.prog w bulk BB 157 cCmd smallC:=
 (Opens.struct hB Tryz.underlying157 (by kernel_rfl) (.cons (size:=1) rfl (by kernel_rfl) (Z0nw hB) (.cons (size:=7) rfl (by kernel_rfl) (Z0mq hB) (.cons (size:=1) rfl (by kernel_rfl) (Z0nj hB) .nil)))).imp (fun x=>⟨x.1,x.2.1,x.2.2.1⟩) (fun _=>rfl) (fun _ h=>⟨h.2.1,h.2.2.1⟩)
theorem Z0nh (hB:BulkOk bulk):Opens enc Tryz.prog w bulk BB 111 (fun l:List Cmd=>[roL 9 cCmd l]) (fun l=>smallL l∧∀ i,smallC (l.getD i default)):=
 (Opens.slice hB Tryz.underlying111 (by kernel_rfl) (by decide) (Z0mt hB)).imp id (fun _=>rfl) (fun _ h=>⟨h.1,Z0fz h.2 ⟨Nat.zero_le _,Nat.zero_le _⟩⟩)
theorem Z0ms (hB:BulkOk bulk):Opens enc Tryz.prog w bulk BB 113 cClu smallK:=
 (Opens.struct hB Tryz.underlying113 (by kernel_rfl) (.cons (size:=1) rfl (by kernel_rfl) (Z0nw hB) (.cons (size:=1) rfl (by kernel_rfl) (Z0nf hB) (.cons (size:=1) rfl (by kernel_rfl) (Z0nh hB) (.cons (size:=1) rfl (by kernel_rfl) (Z0nu hB) .nil))))).imp (fun x=>⟨x.1,x.2.1,x.2.2.1,x.2.2.2.1⟩) (fun _=>rfl) (fun _ h=>⟨h.2.1.1,h.2.1.2,h.2.2.1.1,h.2.2.1.2,h.2.2.2.1⟩)
theorem Z0tk:smallK default:=⟨Nat.zero_le _,fun _=>Nat.zero_le _,Nat.zero_le _,fun _=>⟨Nat.zero_le _,Nat.zero_le _⟩,Nat.zero_le _⟩
theorem Z0ng (hB:BulkOk bulk):Opens enc Tryz.prog w bulk BB 22 (fun l:List Clu=>[roL 4 cClu l]) smallKs:=
 (Opens.slice hB Tryz.underlying22 (by kernel_rfl) (by decide) (Z0ms hB)).imp id (fun _=>rfl) (fun _ h=>⟨h.1,Z0fz h.2 Z0tk⟩)
theorem Z0mu (hB:BulkOk bulk):Opens enc Tryz.prog w bulk BB 126 cDev smallD:=
 (Opens.struct hB Tryz.underlying126 (by kernel_rfl) (.cons (size:=1) rfl (by kernel_rfl) op_int (.cons (size:=1) rfl (by kernel_rfl) Z0nx (.cons (size:=1) rfl (by kernel_rfl) op_int (.cons (size:=1) rfl (by kernel_rfl) Z0ne (.cons (size:=1) rfl (by kernel_rfl) op_int (.cons (size:=1) rfl (by kernel_rfl) (Z0nw hB) (.cons (size:=1) rfl (by kernel_rfl) (Z0nu hB) .nil)))))))).imp
  (fun x=>⟨x.1,x.2.1,x.2.2.1,x.2.2.2.1,x.2.2.2.2.1,x.2.2.2.2.2.1,x.2.2.2.2.2.2.1⟩) (fun _=>rfl) (fun _ h=>⟨h.2.2.2.2.2.2.1,h.1.1,h.1.2⟩)
theorem Z0ni (hB:BulkOk bulk):Opens enc Tryz.prog w bulk BB 23 (fun l:List Dev=>[roL 7 cDev l]) (fun l=>smallL l∧∀ i,smallD (l.getD i default)):=
 (Opens.slice hB Tryz.underlying23 (by kernel_rfl) (by decide) (Z0mu hB)).imp id (fun _=>rfl) (fun _ h=>⟨h.1,Z0fz h.2 ⟨Nat.zero_le _,by decide,by decide⟩⟩)
theorem Z0n1 (hB:BulkOk bulk):Opens enc Tryz.prog w bulk BB 25 cHom smallH:=
 (Opens.struct hB Tryz.underlying25 (by kernel_rfl) (.cons (size:=1) rfl (by kernel_rfl) (Z0ng hB) (.cons (size:=1) rfl (by kernel_rfl) (Z0ni hB) .nil))).imp (fun x=>⟨x.1,x.2.1⟩) (fun _=>rfl) (fun _ h=>⟨h.1,h.2.1.1,h.2.1.2⟩)
end
end Go.Abs
namespace Go.Abs
variable [Globals]
namespace Ex
end Ex
theorem Z0t7:∀ (l:List Ex) (k:Nat),k < l.length→sizeL (l.take (k+1))=sizeL (l.take k)+sizeE (l.getD k default)
 |e :: l,0,_=>by simp [sizeL]
 |e :: l,k+1,h=>by
  have:=Z0t7 l k (by simpa using h)
  simp only [List.take_succ_cons,sizeL,this,List.getD_cons_succ]
  omega
theorem Z0t5 {l:List Ex} {e:Ex} (h:e ∈ l):sizeE e≤sizeL l:=by
 induction l with
 |nil=>simp at h
 |cons x l ih=>
  rw [sizeL]
  rcases List.mem_cons.1 h with rfl|h
  ·omega
  ·have:=ih h;omega
theorem Z0t4 {l:List Ex}:l.length≤sizeL l:=by
 induction l with
 |nil=>simp
 |cons x l ih=>rw [sizeL,Z0t2];simp;omega
theorem Z0t3 {l:List Ex} {k:Nat}:sizeL (l.take k)≤sizeL l:=by
 induction l generalizing k with
 |nil=>simp
 |cons x l ih=>
  cases k with
  |zero=>simp [sizeL]
  |succ k=>have:=@ih k;simp only [List.take_succ_cons,sizeL];omega
end Go.Abs
namespace Go.Abs
open Go.Proofs
set_option maxRecDepth 10000
theorem Z0iz {a b:Key} (h:keyLess a b=true):keyLess b a=false:=by
 rw [←Bool.not_eq_true]
 intro k
 have:=Z0j3 h k
 rw [Z0j1] at this;cases this
end Go.Abs
namespace Go.Abs
open Go.Proofs
set_option maxRecDepth 10000
theorem Z03o (e:Ex) (he:sizeE e≤1073741824):AC Tryz.prog 22 [.pv (.agg (cEx e))] [] (.pv (vint (sizeE e))) []:=by
 have hsz:=Z0t2 e
 have hkl:=Z0t4 (l:=e.kids)
 have ih:∀ k,k < e.kids.length→AC Tryz.prog 22 [.pv (.agg (cEx (e.kids.getD k default)))] [] (.pv (vint (sizeE (e.kids.getD k default)))) []:=fun k hk=>
  have:=Ex.kid_lt (Ex.kid_at hk)
  Z03o (e.kids.getD k default) (by have:=Z0t5 (Ex.kid_at hk);omega)
 refine AC.ex ?_
 refine AC.of_awp (T:=T) T_ok hm Tryz.call22 Tryz.func22 rfl rfl rfl ?_
 conv=>whnf
 refine loop_k (ι:=Nat) [1] [1] (fun k=>k≤e.kids.length∧True) (fun k=>e.kids.length - k) 0 (fun k=>[(3,.pv (vint (1+sizeL (e.kids.take k)))),(4,.pv (vint k))]) (fun _=>[]) [] ⟨Nat.zero_le _,trivial⟩ ?_ (fun k hk=>?_)
 ·(repeat' (first|exact PSub.rfl|exact rfl|exact PSubs.rfl|exact trivial|exact PSub.lit_sb rfl|refine And.intro ?_ ?_))
 obtain⟨hkn,-⟩:=hk
 conv=>whnf
 have hle:=Z0t3 (l:=e.kids) (k:=k)
 repeat (any_goals (first
  |(refine⟨fun(h:(_:Bool)=true)=>?_,fun(h:(_:Bool)=false)=>?_⟩<;>(try simp only [Q0,Q1,Q2,Q3,Q4,Q5,Q6,Q7,Q8,reduceCtorEq] at h)<;>(conv=>whnf))
  |(refine .inl ⟨_,ih k (by omega),?_⟩;conv=>whnf)
  |(refine And.intro (by(try simp only [Int.toNat_natCast]);omega) ?_;conv=>whnf)))
 ·have h1:k < e.kids.length:=by omega
  have hst:=Z0t7 e.kids k h1
  have hmem:=Z0t3 (l:=e.kids) (k:=k+1)
  refine .inl ⟨wrap64 (by omega),?_⟩
  conv=>whnf
  refine .inl ⟨wrap64 (by omega),?_⟩
  conv=>whnf
  refine⟨k+1,[],⟨by omega,trivial⟩,by first|omega|(dsimp only;omega),?_⟩
  (repeat' (first|exact PSub.rfl|exact rfl|exact PSubs.rfl|exact trivial|exact PSub.lit_sb rfl|refine And.intro ?_ ?_))
  refine PSub.int ?_
  omega
 ·refine PSub.int ?_
  rw [List.take_of_length_le (by omega)]
  omega
termination_by SizeOf.sizeOf e
end Go.Abs
namespace Go.Abs
open Go.RowKit
section
variable {H:Type} (enc:TypeId × Value→H) (P:Program) (w:World) (bulk:DataW H→Nat) (B:Nat)
end
section
variable {H:Type} {enc:TypeId × Value→H} {P:Program} {w:World} {bulk:DataW H→Nat} {B:Nat}
theorem Opens.toU {t:TypeId} {α:Type} {cs:α→List PV} {good:α→Prop} {N:Nat} (h:Opens enc P w bulk B t cs good):OpensU enc P w bulk B N t cs good (fun _=>0):=by
 intro sp fuel vs x _ hx hb
 obtain⟨a,h1,h2⟩:=h sp fuel vs x hx hb
 exact⟨a,h1,Nat.zero_le _,h2⟩
end
end Go.Abs
namespace Go.Abs
open Go.Proofs Go.RowKit
set_option maxRecDepth 10000
section
variable {H:Type} {enc:TypeId × Value→H} {w:World} {bulk:DataW H→Nat}
theorem Z0t6:∀ l:List Ex,(l.map sizeE).sum=sizeL l
 | []=>rfl
 |e :: l=>by rw [List.map_cons,List.sum_cons,sizeL,Z0t6 l]
theorem Z0mz (hB:BulkOk bulk) (hS:BulkSum bulk):∀ N,OpensU enc Tryz.prog w bulk BB N 61 cEx (fun _=>True) sizeE:=by
 have step:∀ N,OpensU enc Tryz.prog w bulk BB N 61 cEx (fun _=>True) sizeE→OpensU enc Tryz.prog w bulk BB (N+1+1) 61 cEx (fun _=>True) sizeE:=by
  intro N ih
  have hk:=OpensU.slice hB hS (t:=59) Tryz.underlying59 (size:=11) (by kernel_rfl) (by decide) ih
  refine(OpensU.struct hB hS Tryz.underlying61 (by kernel_rfl) (.cons (size:=1) rfl (by kernel_rfl) op_int.toU (.cons (size:=1) rfl (by kernel_rfl) op_int.toU (.cons (size:=1) rfl (by kernel_rfl) op_int.toU (.cons (size:=1) rfl (by kernel_rfl) (Z0nw hB).toU
   (.cons (size:=3) rfl (by kernel_rfl) (Z0nb hB).toU (.cons (size:=3) rfl (by kernel_rfl) (op_Key hB).toU (.cons (size:=1) rfl (by kernel_rfl) hk .nil)))))))).imp (fun x=>.mk x.1 x.2.1 x.2.2.1 x.2.2.2.1 x.2.2.2.2.1 x.2.2.2.2.2.1 x.2.2.2.2.2.2.1) (fun a _ vs hr=>?_) (fun _ _=>trivial) (fun a=>?_)
  ·exact Reads.sub hr ⟨.rfl,.rfl,.rfl,.rfl,.rfl,.rfl,.rfl,.rfl,.rfl,.rfl,PSub.kids',trivial⟩
  ·rw [Z0t2,←Z0t6]
   dsimp only [Ex.kids]
   omega
 intro N
 induction N using Nat.strongRecOn with
 |_ N ih=>
  match N with
  |0=>
   intro sp fuel vs x hf hx hb
   exact step 0 (fun sp fuel vs x hf hx hb=>by
    obtain rfl:fuel=0:=by omega
    simp [DataW.trod] at hx) sp fuel vs x (by omega) hx hb
  |1=>
   intro sp fuel vs x hf hx hb
   exact step 0 (ih 0 (by omega)) sp fuel vs x (by omega) hx hb
  |N+2=>exact step N (ih N (by omega))
theorem Z0my (hB:BulkOk bulk) (hS:BulkSum bulk):Opens enc Tryz.prog w bulk BB 61 cEx (fun e=>sizeE e≤1048576):=
 (OpensU.all (Z0mz hB hS)).imp id (fun _=>rfl) (fun _ h=>h.2)
theorem Z0n7 (hB:BulkOk bulk):Opens enc Tryz.prog w bulk BB 28 cSco smallS:=
 (Opens.struct hB Tryz.underlying28 (by kernel_rfl) (.cons (size:=2) rfl (by kernel_rfl) (Z0n1 hB) (.cons (size:=1) rfl (by kernel_rfl) (Z0nu hB) (.cons (size:=1) rfl (by kernel_rfl) (Z0nu hB) .nil)))).imp (fun x=>⟨x.1,x.2.1,x.2.2.1⟩) (fun _=>rfl) (fun _ h=>⟨h.1,h.2.1,h.2.2.1⟩)
theorem Z0mw (hB:BulkOk bulk):Opens enc Tryz.prog w bulk BB 109 (fun x:Evt=>[vint x.dev,vstr x.cluster,vstr x.name]) (fun _=>True):=
 (Opens.struct hB Tryz.underlying109 (by kernel_rfl) (.cons (size:=1) rfl (by kernel_rfl) op_int (.cons (size:=1) rfl (by kernel_rfl) (Z0nw hB) (.cons (size:=1) rfl (by kernel_rfl) (Z0nw hB) .nil)))).imp (fun x=>⟨x.1,x.2.1,x.2.2.1⟩) (fun _=>rfl) (fun _ _=>trivial)
theorem Z0na (hB:BulkOk bulk):Opens enc Tryz.prog w bulk BB 120 cTrg (fun _=>True):=
 (Opens.struct hB Tryz.underlying120 (by kernel_rfl) (.cons (size:=1) rfl (by kernel_rfl) op_int (.cons (size:=3) rfl (by kernel_rfl) (op_Key hB) (.cons (size:=3) rfl (by kernel_rfl) (Z0mw hB) (.cons (size:=1) rfl (by kernel_rfl) (Z0nw hB) (.cons (size:=1) rfl (by kernel_rfl) op_int (.cons (size:=1) rfl (by kernel_rfl) op_int .nil))))))).imp
  (fun x=>⟨x.1,x.2.1,x.2.2.1,x.2.2.2.1,x.2.2.2.2.1,x.2.2.2.2.2.1⟩) (fun _=>rfl) (fun _ _=>trivial)
theorem Z0ns (hB:BulkOk bulk):Opens enc Tryz.prog w bulk BB 54 (fun l:List Trg=>[roL 10 cTrg l]) smallL:=
 (Opens.slice hB Tryz.underlying54 (by kernel_rfl) (by decide) (Z0na hB)).imp id (fun _=>rfl) (fun _ h=>h.1)
theorem Z0n9 (hB:BulkOk bulk) (hS:BulkSum bulk):Opens enc Tryz.prog w bulk BB 79 cStp (fun x=>sizeE x.expr≤1048576):=
 (Opens.struct hB Tryz.underlying79 (by kernel_rfl) (.cons (size:=1) rfl (by kernel_rfl) op_int (.cons (size:=3) rfl (by kernel_rfl) (op_Key hB) (.cons (size:=1) rfl (by kernel_rfl) (Z0nw hB) (.cons (size:=11) rfl (by kernel_rfl) (Z0my hB hS) .nil))))).imp (fun x=>⟨x.1,x.2.1,x.2.2.1,x.2.2.2.1⟩) (fun _=>rfl) (fun _ h=>h.2.2.2.1)
theorem Z0nr (hB:BulkOk bulk) (hS:BulkSum bulk):Opens enc Tryz.prog w bulk BB 62 (fun l:List Stp=>[roL 16 cStp l]) (fun l=>smallL l∧∀ i,i < l.length→sizeE (l.getD i default).expr≤1048576):=
 (Opens.slice hB Tryz.underlying62 (by kernel_rfl) (by decide) (Z0n9 hB hS)).imp id (fun _=>rfl) (fun _ h=>h)
theorem Z0n5 (hB:BulkOk bulk) (hS:BulkSum bulk):Opens enc Tryz.prog w bulk BB 64 cRul goodRulO:=
 (Opens.struct hB Tryz.underlying64 (by kernel_rfl) (.cons (size:=1) rfl (by kernel_rfl) (Z0nw hB) (.cons (size:=1) rfl (by kernel_rfl) op_int (.cons (size:=1) rfl (by kernel_rfl) (Z0ns hB) (.cons (size:=11) rfl (by kernel_rfl) (Z0my hB hS) (.cons (size:=1) rfl (by kernel_rfl) (Z0nr hB hS) .nil)))))).imp
  (fun x=>⟨x.1,x.2.1,x.2.2.1,x.2.2.2.1,x.2.2.2.2.1⟩) (fun _=>rfl) (fun _ h=>⟨Nat.le_trans h.2.2.2.1 (by decide),fun i hi=>Nat.le_trans (h.2.2.2.2.1.2 i hi) (by decide)⟩)
theorem Z0no (hB:BulkOk bulk) (hS:BulkSum bulk):Opens enc Tryz.prog w bulk BB 30 (fun l:List Rul=>[roL 15 cRul l]) (fun l=>smallL l∧∀ i,i < l.length→goodRulO (l.getD i default)):=
 (Opens.slice hB Tryz.underlying30 (by kernel_rfl) (by decide) (Z0n5 hB hS)).imp id (fun _=>rfl) (fun _ h=>h)
end
end Go.Abs
namespace Go.Proofs.YtipbekclhmbclaaGreatDoor
open Go.ChangeShapes Go.WideShapes Go.ChangeAt Go.RowKit Go.Abs
theorem bulkSum {H:Type}:BulkSum (Rows.uptoBulk (H:=H)):=by
 have all:∀ l:List (DataW H),Rows.uptoBulkAll l=(l.map Rows.uptoBulk).sum:=by
  intro l
  induction l with
  |nil=>rfl
  |cons x r ih=>simp only [Rows.uptoBulkAll,List.map_cons,List.sum_cons,ih]
 refine⟨fun e s=>?_,fun l=>?_⟩
 ·simp only [Rows.uptoBulk,all];omega
 ·simp only [Rows.uptoBulk,all];omega
end Go.Proofs.YtipbekclhmbclaaGreatDoor
namespace Go.Abs
theorem Z097:∀ {l k:List Key},Asc l→Asc k→(∀ x,x ∈ l↔x ∈ k)→l=k
 | [],[],_,_,_=>rfl
 | [],b :: k,_,_,h=>by have:=(h b).2 (by simp);simp at this
 |a :: l,[],_,_,h=>by have:=(h a).1 (by simp);simp at this
 |a :: l,b :: k,hl,hk,h=>by
  obtain⟨hl1,hl2⟩:=List.pairwise_cons.1 hl
  obtain⟨hk1,hk2⟩:=List.pairwise_cons.1 hk
  have e:a=b:=by
   have h1:=(h a).1 (by simp)
   have h2:=(h b).2 (by simp)
   rcases List.mem_cons.1 h1 with e|h1
   ·exact e
   ·rcases List.mem_cons.1 h2 with e|h2
    ·exact e.symm
    ·have:=Z0iz (hl1 b h2)
     rw [hk1 a h1] at this;cases this
  subst e
  congr 1
  refine Z097 hl2 hk2 fun x=>⟨fun hx=>?_,fun hx=>?_⟩
  ·rcases List.mem_cons.1 ((h x).1 (by simp [hx])) with e|h1
   ·subst e;have:=hl1 x hx;rw [Z0j1] at this;cases this
   ·exact h1
  ·rcases List.mem_cons.1 ((h x).2 (by simp [hx])) with e|h1
   ·subst e;have:=hk1 x hx;rw [Z0j1] at this;cases this
   ·exact h1
theorem Z0f8 {l acc:List Key} {x:Key}:x ∈ l.foldl putK acc↔x ∈ acc∨x ∈ l:=by
 induction l generalizing acc with
 |nil=>simp
 |cons y r ih=>
  simp only [List.foldl_cons,ih,mem_putK,List.mem_cons]
  constructor
  ·rintro ((h|h)|h)
   ·exact .inr (.inl h)
   ·exact .inl h
   ·exact .inr (.inr h)
  ·rintro (h|h|h)
   ·exact .inl (.inr h)
   ·exact .inl (.inl h)
   ·exact .inr h
theorem Z0lb {l:List Key} {x:Key}:x ∈ sortK l↔x ∈ l:=by unfold sortK;rw [Z0f8];simp
theorem Z0tq {l k:List Key} (h:∀ x,x ∈ l↔x ∈ k):sortK l=sortK k:=Z097 (Z09a l) (Z09a k) fun x=>by rw [Z0lb,Z0lb,h]
theorem Asc.nodup {l:List Key} (h:Asc l):l.Nodup:=by
 refine List.Pairwise.imp (fun {a b} hab=>?_) h
 intro e;subst e;rw [Z0j1] at hab;cases hab
end Go.Abs
namespace Go.Abs
theorem Z0re (s:Sco) (l:List Rul):(rulesE s l.reverse).2=0↔(rulesE s l).2=0:=by
 rw [Z0rd,Z0rd]
 simp only [List.length_reverse,List.mem_reverse,List.map_reverse]
 have:(l.map Rul.name).reverse.Nodup↔(l.map Rul.name).Nodup:=(List.reverse_perm _).nodup_iff
 rw [this]
end Go.Abs
namespace Go.Abs
theorem Z0tx {l k:List ByteArray} (h:∀ x,x ∈ l↔x ∈ k):sortS l=sortS k:=Z094 (Z096 l) (Z096 k) fun x=>by rw [mem_sortS,mem_sortS,h]
theorem AscS.nodup {l:List ByteArray} (h:AscS l):l.Nodup:=by
 refine List.Pairwise.imp (fun {a b} hab=>?_) h
 intro e;subst e;rw [Z0s6] at hab;cases hab
theorem Z0m5 {l:List ByteArray}:∀ {m:List ByteArray},l.Nodup→(∀ x ∈ l,x ∈ m)→l.length≤m.length:=by
 induction l with
 |nil=>intro m _ _;simp
 |cons a l ih=>
  intro m hn hs
  obtain⟨h1,h2⟩:=List.nodup_cons.1 hn
  have ha:a ∈ m:=hs a (by simp)
  have h3:=ih (m:=m.filter fun y=>decide (y≠a)) h2 (fun x hx=>List.mem_filter.2 ⟨hs x (by simp [hx]),decide_eq_true fun e=>h1 (by rw [←e];exact hx)⟩)
  have h4:(m.filter fun y=>decide (y≠a)).length < m.length:=List.length_filter_lt_length_iff_exists.2 ⟨a,ha,by simp⟩
  simp only [List.length_cons];omega
theorem Z0hw {m:List ByteArray} {x:ByteArray} {j:Nat} (h:j≤m.length):(insM m x j).length=m.length+1:=by
 unfold insM
 rw [List.length_append,List.length_take,List.length_cons,List.length_drop]
 omega
theorem Z0hv {m:List ByteArray} {x:ByteArray} {j i:Nat} (h:j≤m.length):(insM m x j).getD i default=if i < j then m.getD i default else if i=j then x else m.getD (i - 1) default:=by
 unfold insM
 by_cases h1:i < j
 ·rw [if_pos h1]
  have h2:i < (m.take j).length:=by rw [List.length_take];omega
  simp [List.getD,List.getElem?_append_left h2,List.getElem?_take,h1]
 ·rw [if_neg h1]
  have h2:(m.take j).length≤i:=by rw [List.length_take];omega
  have h3:(m.take j).length=j:=by rw [List.length_take];omega
  by_cases h4:i=j
  ·rw [if_pos h4]
   subst h4
   simp [List.getD,List.getElem?_append_right h2,h3]
  ·rw [if_neg h4]
   simp only [List.getD,List.getElem?_append_right h2,h3]
   obtain⟨d,rfl⟩:∃ d,i=j+(d+1):=⟨i - j - 1,by omega⟩
   rw [show j+(d+1) - j=d+1 by omega,List.getElem?_cons_succ,List.getElem?_drop,show j+(d+1) - 1=j+d by omega]
theorem Z0u1 {l:List ByteArray} {x:ByteArray} (h:x ∈ l):sortS (l ++ [x])=sortS l:=Z0tx fun y=>by
 rw [List.mem_append,List.mem_singleton]
 exact⟨fun h2=>h2.elim id (fun e=>e ▸ h),.inl⟩
theorem Z0h2 {l:List ByteArray} {k:Nat} (hk:k < l.length):idxOf l (l.getD k default) < (k:Int)↔l.getD k default ∈ l.take k:=by
 rw [Z0h3 hk]
 simp only [memN,List.any_eq_true,List.mem_range,decide_eq_true_eq]
 constructor
 ·rintro ⟨j,hj,e⟩
  rw [←e]
  have hj2:j < (l.take k).length:=by rw [List.length_take];omega
  have:l.getD j default=(l.take k)[j]:=by simp [List.getD,show j < l.length by omega]
  rw [this];exact List.getElem_mem hj2
 ·intro h
  obtain⟨j,hj,e⟩:=List.getElem_of_mem h
  rw [List.length_take] at hj
  refine⟨j,by omega,?_⟩
  rw [←e];simp [List.getD,show j < l.length by omega]
end Go.Abs
namespace Go.Abs
open Go.Proofs
set_option maxRecDepth 10000
theorem Z02k (l:List ByteArray) (hl:l.length≤1048576):AC Tryz.prog 37 [.pv (roL 1 cstr l)] [] (.pv (roL 1 cstr (sortS l))) []:=by
 refine AC.of_awp (T:=T) T_ok hm Tryz.call37 Tryz.func37 rfl rfl rfl ?_
 conv=>whnf
 refine loop_k (ι:=Nat) [0] [] (fun k=>k≤l.length∧True) (fun k=>l.length - k) 0 (fun k=>[(3,.own 500),(4,.pv (vint k))]) (fun k=>[(500,rowL 1 cstr (sortS (l.take k)))]) [] ⟨Nat.zero_le _,trivial⟩ ?_ (fun k hk=>?_)
 ·(repeat' (first|exact PSub.rfl|exact rfl|exact PSubs.rfl|exact trivial|exact PSub.lit_sb rfl|refine And.intro ?_ ?_));all_goals ((intro i hi;exact absurd hi (by simp [sortS])))
 obtain⟨hkn,hinv⟩:=hk
 conv=>whnf
 have hlen:=Z0ty (l.take k)
 rw [List.length_take] at hlen
 repeat (any_goals (first
  |(refine⟨fun(h:(_:Bool)=true)=>?_,fun(h:(_:Bool)=false)=>?_⟩<;>(try simp only [Q0,Q1,Q2,Q3,Q4,Q5,Q6,Q7,Q8,reduceCtorEq] at h)<;>(conv=>whnf))
  |(refine .inl ⟨_,Z02i l (l.getD k default) hl,?_⟩;conv=>whnf)
  |(refine And.intro (by(try simp only [Int.toNat_natCast]);omega) ?_;conv=>whnf)
  |(refine .inl ⟨wrap64 (by omega),?_⟩;conv=>whnf)))
 ·have hk:k < l.length:=by omega
  have hin:=(Z0h2 hk).1 h
  refine⟨k+1,[],⟨by omega,trivial⟩,by omega,?_⟩
  rw [Z0xx hk,Z0u1 hin]
  (repeat' (first|exact PSub.rfl|exact rfl|exact PSubs.rfl|exact trivial|exact PSub.lit_sb rfl|refine And.intro ?_ ?_))
  intro i hi;exact PSubs.rfl
 ·have hk:k < l.length:=by omega
  have hin:¬ l.getD k default ∈ l.take k:=fun h2=>h ((Z0h2 hk).2 h2)
  have hx:l.getD k default ∉ sortS (l.take k):=fun h2=>hin (mem_sortS.1 h2)
  have hA:=Z096 (l.take k)
  have hS:=Z0u2 (l.take k) (l.getD k default)
  rw [←Z0xx hk] at hS
  obtain⟨x,hxdef⟩:∃ x,x=l.getD k default:=⟨_,rfl⟩
  rw [←hxdef] at hin hx hS
  generalize sortS (l.take k)=m at *
  refine loop_k (ι:=Nat) [0,4] [] (fun j=>j≤m.length∧∀ i,j≤i→i < m.length→sLt x (m.getD i default)=true) (fun j=>j) m.length (fun j=>[(3,.own 501),(5,.pv (vint j))]) (fun j=>[(501,rowL 1 cstr (insM m x j))]) [(501,27)] ⟨Nat.le_refl _,fun i h1 h2=>absurd h2 (by omega)⟩ ?_ (fun j hj=>?_)
  ·have hi:=Z0hw (x:=x) (Nat.le_refl m.length)
   have he:insM m x m.length=m ++ [x]:=by simp [insM]
   rw [he]
   (repeat' (first|exact PSub.rfl|exact rfl|exact PSubs.rfl|exact trivial|exact PSub.lit_sb rfl|refine And.intro ?_ ?_))
   ·simp
   ·refine Z0qz (fun i hi=>by simp only [if_pos hi];exact PSubs.rfl) (by simp only [if_neg (Nat.lt_irrefl _),Nat.sub_self];rw [hxdef];exact PSubs.rfl)
   ·exact PSub.int (by omega)
  obtain⟨hjn,hinv⟩:=hj
  have hil:=Z0hw (x:=x) hjn
  have hg:∀ i,(insM m x j).getD i default=if i < j then m.getD i default else if i=j then x else m.getD (i - 1) default:=fun i=>Z0hv hjn
  have hxj:(insM m x j).getD j default=x:=by rw [hg,if_neg (by omega),if_pos rfl]
  have hj1:((j:Int) - 1).toNat=j - 1:=by omega
  have hmj:0 < j→(insM m x j).getD (j - 1) default=m.getD (j - 1) default:=fun h=>by rw [hg,if_pos (by omega)]
  conv=>whnf
  repeat (any_goals (first
   |(refine⟨fun(h:(_:Bool)=true)=>?_,fun(h:(_:Bool)=false)=>?_⟩<;>(try simp only [Q0,Q1,Q2,Q3,Q4,Q5,Q6,Q7,Q8,reduceCtorEq] at h)<;>(conv=>whnf))
   |(refine And.intro (by(try simp only [Int.toNat_natCast]);omega) ?_;conv=>whnf)
   |(refine And.intro (show(_:Bool)=true from by kernel_rfl) ?_;conv=>whnf)
   |(refine .inl ⟨wrap64 (by omega),?_⟩;conv=>whnf)))
  ·have hpos:0 < j:=by omega
   rw [hj1,hxj,hmj hpos] at h
   refine⟨j - 1,[],⟨by omega,fun i h1 h2=>?_⟩,by omega,?_⟩
   ·by_cases e:i=j - 1
    ·subst e;exact h
    ·exact hinv i (by omega) h2
   ·have hil2:=Z0hw (x:=x) (show j - 1≤m.length by omega)
    have hg2:∀ i,(insM m x (j - 1)).getD i default=if i < j - 1 then m.getD i default else if i=j - 1 then x else m.getD (i - 1) default:=fun i=>Z0hv (by omega)
    (repeat' (first|exact PSub.rfl|exact rfl|exact PSubs.rfl|exact trivial|exact PSub.lit_sb rfl|refine And.intro ?_ ?_))
    ·rw [hil2,hil]
    ·intro i hi
     simp only [Int.toNat_natCast,hj1]
     by_cases e1:i=j - 1
     ·subst e1
      rw [Z0yg,Z0yf (by omega),hg2,if_neg (by omega),if_pos rfl]
      exact⟨PSub.str hxj,trivial⟩
     ·rw [Z0yf e1]
      by_cases e2:i=j
      ·subst e2
       rw [Z0yg,hg2,if_neg (by omega),if_neg (by omega)]
       exact⟨PSub.str (hmj hpos),trivial⟩
      ·rw [Z0yf e2,hg2]
       refine⟨PSub.str ?_,trivial⟩
       rw [hg]
       by_cases e3:i < j
       ·rw [if_pos e3,if_pos (by omega)]
       ·rw [if_neg e3,if_neg e2,if_neg (by omega),if_neg (by omega)]
    ·exact PSub.int (by omega)
  ·have hpos:0 < j:=by omega
   rw [hj1,hxj,hmj hpos] at h
   refine⟨k+1,[(500,501)],⟨by omega,trivial⟩,by omega,?_⟩
   rw [hS,←Z0hx hA hx hjn hinv (.inr h)]
   (repeat' (first|exact PSub.rfl|exact rfl|exact PSubs.rfl|exact trivial|exact PSub.lit_sb rfl|refine And.intro ?_ ?_))
   intro i hi;exact PSubs.rfl
  ·have hz:j=0:=by omega
   refine⟨k+1,[(500,501)],⟨by omega,trivial⟩,by omega,?_⟩
   rw [hS,←Z0hx hA hx hjn hinv (.inl hz)]
   (repeat' (first|exact PSub.rfl|exact rfl|exact PSubs.rfl|exact trivial|exact PSub.lit_sb rfl|refine And.intro ?_ ?_))
   intro i hi;exact PSubs.rfl
 ·rw [List.take_of_length_le (by omega)]
  exact .rfl
end Go.Abs
namespace Go.Abs
open Go.Proofs Go.RowKit
section
variable {H:Type} {enc:TypeId × Value→H} {w:World} {bulk:DataW H→Nat}
theorem Z0nm (hB:BulkOk bulk):Opens enc Tryz.prog w bulk BB 35 (fun l:List Key=>[roL 3 cKey l]) smallL:=
 (Opens.slice hB Tryz.underlying35 (by kernel_rfl) (by decide) (op_Key hB)).imp id (fun _=>rfl) (fun _ h=>h.1)
theorem Z0n6 (hB:BulkOk bulk):Opens enc Tryz.prog w bulk BB 76 cSce (fun s=>goodItems s.items):=
 (Opens.struct hB Tryz.underlying76 (by kernel_rfl) (.cons (size:=1) rfl (by kernel_rfl) (Z0nw hB) (.cons (size:=1) rfl (by kernel_rfl) (Z0nl hB) .nil))).imp (fun x=>⟨x.1,x.2.1⟩) (fun _=>rfl) (fun _ h=>h.2.1)
end
end Go.Abs
namespace Go.Abs
open Go.Proofs
theorem Z0ij {α:Type} [Inhabited α] {lt:α→α→Bool} (h:TO (fun x y=>x=y) lt) {l k:List α} (hp:l.Perm k):isortR lt l=isortR lt k:=by
 have hw:=h.swo
 refine Z0uv hw (Z0im hw l).1 (Z0im hw k).1 fun x=>?_
 rw [(Z0im hw l).2 x,(Z0im hw k).2 x]
 have hx:∀ m:List α,m.filter (eqv lt x)=List.replicate (m.filter (eqv lt x)).length x:=fun m=>by
  rw [List.eq_replicate_iff]
  refine⟨rfl,fun y hy=>?_⟩
  have h2:=eqv_iff.1 (List.mem_filter.1 hy).2
  by_cases e:x=y
  ·exact e.symm
  ·rcases h.tot _ _ e with k|k
   ·rw [h2.1] at k;cases k
   ·rw [h2.2] at k;cases k
 rw [hx l,hx k,(hp.filter _).length_eq]
end Go.Abs
namespace Go.Abs
open Go.Proofs
theorem Z0rg {s:Sco} {l:List Rul} (h:runE s l=0):scoE s=0∧(rulesE s l).2=0:=by
 unfold runE at h
 split at h
 ·rename_i h1;exact absurd h h1
 ·rename_i h1;exact⟨by simpa using h1,h⟩
theorem Z0u0:∀ {l:List ByteArray},(sortS l).length=l.length→l.Nodup
 | [],_=>List.nodup_nil
 |x :: r,h=>by
  have hx:x ∉ r:=fun hx=>by
   have e:sortS (x :: r)=sortS r:=Z0tx fun y=>by
    rw [List.mem_cons]
    exact⟨fun k=>k.elim (fun e=>e ▸ hx) id,.inr⟩
   have:=Z0ty r
   rw [e,List.length_cons] at h
   omega
  refine List.nodup_cons.2 ⟨hx,Z0u0 ?_⟩
  have h1:(sortS (x :: r)).length≤(x :: sortS r).length:=Z0m5 (Z096 _).nodup fun y hy=>by
   rw [mem_sortS,List.mem_cons] at hy
   rw [List.mem_cons,mem_sortS];exact hy
  have h2:=Z0ty r
  rw [h,List.length_cons,List.length_cons] at h1
  omega
end Go.Abs
namespace Go.Abs
open Go.Proofs
theorem Z0ig (l:List Write):(isortR ordW l).length=l.length:=Z0ih l
theorem Z0rk {s:Sco} {sc:List Scene} {v:Vw} {h:Hap} {l:List Rul}:shortO (runR s sc v h l):=by
 unfold runR
 split
 ·rename_i he
  have ok:=(Z0rd s l).1 (Z0rg he).2
  have h40:=ok.1
  have hl:=Z0pf (sc:=sc) (v:=v) (h:=h) ok.2.1 l.length (Nat.le_refl _)
  have a:=hl.w;have b:=hl.m;have c:=hl.r;have d:=hl.n
  rw [Z0rh]
  refine⟨?_,?_,?_,?_⟩
  ·show(isortR _ _).length≤_;rw [Z0ig];omega
  ·show(isortR _ _).length≤_;rw [Z0ig];omega
  ·have:=Z0ty (rawK s sc v h l l.length).ran;show(sortS _).length≤_;omega
  ·have:=Z0ty (rawK s sc v h l l.length).notes;show(sortS _).length≤_;omega
 ·exact⟨by decide,by decide,by decide,by decide⟩
end Go.Abs
namespace Go.Abs
open Go.Proofs Go.RowKit
set_option maxRecDepth 10000
section
variable {H:Type} {enc:TypeId × Value→H} {w:World} {bulk:DataW H→Nat}
theorem Z0n8 (hB:BulkOk bulk):Opens enc Tryz.prog w bulk BB 310 cSpn (fun _=>True):=
 (Opens.struct hB Tryz.underlying310 (by kernel_rfl) (.cons (size:=1) rfl (by kernel_rfl) op_int (.cons (size:=1) rfl (by kernel_rfl) op_int .nil))).imp (fun x=>⟨x.1,x.2.1⟩) (fun _=>rfl) (fun _ _=>trivial)
theorem Z0nq (hB:BulkOk bulk):Opens enc Tryz.prog w bulk BB 103 (fun l:List Spn=>[roL 2 cSpn l]) smallL:=
 (Opens.slice hB Tryz.underlying103 (by kernel_rfl) (by decide) (Z0n8 hB)).imp id (fun _=>rfl) (fun _ h=>h.1)
theorem Z0n3 (hB:BulkOk bulk):Opens enc Tryz.prog w bulk BB 105 cMem (fun _=>True):=
 (Opens.struct hB Tryz.underlying105 (by kernel_rfl) (.cons (size:=1) rfl (by kernel_rfl) (Z0nw hB) (.cons (size:=1) rfl (by kernel_rfl) op_int (.cons (size:=1) rfl (by kernel_rfl) (Z0nq hB) (.cons (size:=1) rfl (by kernel_rfl) (Z0nu hB) (.cons (size:=1) rfl (by kernel_rfl) Z0ne .nil)))))).imp
  (fun x=>⟨x.1,x.2.1,x.2.2.1,x.2.2.2.1,x.2.2.2.2.1⟩) (fun _=>rfl) (fun _ _=>trivial)
theorem Z0nn (hB:BulkOk bulk):Opens enc Tryz.prog w bulk BB 32 (fun l:List Mem=>[roL 5 cMem l]) smallL:=
 (Opens.slice hB Tryz.underlying32 (by kernel_rfl) (by decide) (Z0n3 hB)).imp id (fun _=>rfl) (fun _ h=>h.1)
theorem Z0nc (hB:BulkOk bulk):Opens enc Tryz.prog w bulk BB 34 cVw smallV2:=
 (Opens.struct hB Tryz.underlying34 (by kernel_rfl) (.cons (size:=1) rfl (by kernel_rfl) (Z0nl hB) (.cons (size:=1) rfl (by kernel_rfl) (Z0nw hB) (.cons (size:=1) rfl (by kernel_rfl) op_int (.cons (size:=1) rfl (by kernel_rfl) (Z0nn hB) .nil))))).imp
  (fun x=>⟨x.1,x.2.1,x.2.2.1,x.2.2.2.1⟩) (fun _=>rfl) (fun _ h=>⟨h.1.1,h.2.2.2.1⟩)
theorem Z0mx (hB:BulkOk bulk):Opens enc Tryz.prog w bulk BB 109 cKey (fun _=>True):=
 (Opens.struct hB Tryz.underlying109 (by kernel_rfl) (.cons (size:=1) rfl (by kernel_rfl) op_int (.cons (size:=1) rfl (by kernel_rfl) (Z0nw hB) (.cons (size:=1) rfl (by kernel_rfl) (Z0nw hB) .nil)))).imp (fun x=>⟨x.1,x.2.1,x.2.2.1⟩) (fun _=>rfl) (fun _ _=>trivial)
theorem Z0nk (hB:BulkOk bulk):Opens enc Tryz.prog w bulk BB 36 (fun l:List Key=>[roL 3 cKey l]) smallL:=
 (Opens.slice hB Tryz.underlying36 (by kernel_rfl) (by decide) (Z0mx hB)).imp id (fun _=>rfl) (fun _ h=>h.1)
theorem Z0n0 (hB:BulkOk bulk):Opens enc Tryz.prog w bulk BB 38 cHap smallHp:=
 (Opens.struct hB Tryz.underlying38 (by kernel_rfl) (.cons (size:=1) rfl (by kernel_rfl) (Z0nm hB) (.cons (size:=1) rfl (by kernel_rfl) (Z0nk hB) (.cons (size:=1) rfl (by kernel_rfl) op_int (.cons (size:=1) rfl (by kernel_rfl) op_int (.cons (size:=1) rfl (by kernel_rfl) (Z0nw hB) (.cons (size:=1) rfl (by kernel_rfl) Z0ne (.cons (size:=1) rfl (by kernel_rfl) (Z0nu hB) .nil)))))))).imp
  (fun x=>⟨x.1,x.2.1,x.2.2.1,x.2.2.2.1,x.2.2.2.2.1,x.2.2.2.2.2.1,x.2.2.2.2.2.2.1⟩) (fun _=>rfl) (fun _ h=>⟨h.1,h.2.1,h.2.2.2.2.2.2.1⟩)
theorem Z0np (hB:BulkOk bulk):Opens enc Tryz.prog w bulk BB 29 (fun l:List Scene=>[roL 2 cSce l]) smallSc:=
 (Opens.slice hB Tryz.underlying29 (by kernel_rfl) (by decide) (Z0n6 hB)).imp id (fun _=>rfl) (fun _ h=>⟨h.1,fun i hi=>(h.2 i hi).1⟩)
theorem Z0nv (hB:BulkOk bulk) (hS:BulkSum bulk):Opens enc Tryz.prog w bulk BB 40 cRuC smallRuC:=
 (Opens.struct hB Tryz.underlying40 (by kernel_rfl) (.cons (size:=4) rfl (by kernel_rfl) (Z0n7 hB) (.cons (size:=1) rfl (by kernel_rfl) (Z0np hB) (.cons (size:=1) rfl (by kernel_rfl) (Z0no hB hS) (.cons (size:=4) rfl (by kernel_rfl) (Z0nc hB) (.cons (size:=7) rfl (by kernel_rfl) (Z0n0 hB) .nil)))))).imp
  (fun x=>⟨x.1,x.2.1,x.2.2.1,x.2.2.2.1,x.2.2.2.2.1⟩) (fun _=>rfl) (fun _ h=>⟨h.1,h.2.1,h.2.2.1,h.2.2.2.1,h.2.2.2.2.1⟩)
end
end Go.Abs
namespace Go.Abs
open Go.Proofs
theorem Z0o8 {α β:Type} {l k:List α} (h:l.Perm k) (f:α→List β):(l.flatMap f).Perm (k.flatMap f):=by
 induction h with
 |nil=>exact .refl _
 |cons x _ ih=>rw [List.flatMap_cons,List.flatMap_cons];exact ih.append_left _
 |swap x y l=>
  simp only [List.flatMap_cons,←List.append_assoc]
  exact List.perm_append_comm.append_right _
 |trans _ _ h1 h2=>exact h1.trans h2
theorem Z0ly {v w:Vw} (h:SameV v w) (k n m:Int) (nm:ByteArray) (x:Val) (q:Key) (l:List Val):nodV v k n m nm x q l=nodV w k n m nm x q l:=by
 unfold nodV
 rw [h.at,h.mode,h.minute,h.home]
mutual
theorem Z0d8 {v w:Vw} (h:SameV v w):∀ e:Ex,evR v e=evR w e
 | .mk k n m nm x q ks=>by rw [evR,evR,Z0d0 h ks,Z0ly h]
theorem Z0d0 {v w:Vw} (h:SameV v w):∀ l:List Ex,evL v l=evL w l
 | []=>by rw [evL,evL]
 |e :: es=>by rw [evL,evL,Z0d8 h e,Z0d0 h es]
end
theorem Z0da {v w:Vw} (h:SameV v w) (e:Ex):evlE v e=evlE w e:=by unfold evlE;rw [Z0d8 h]
theorem Z0y9 {v w:Vw} (h:SameV v w) (e:Ex):truE v e=truE w e:=by unfold truE;rw [Z0da h]
theorem Z0dx {l:List Item} (hn:(l.map Item.key).Nodup) {q:Key} {x:Item}:findI l q=some x↔x ∈ l∧x.key=q:=by
 induction l with
 |nil=>simp [findI]
 |cons y l ih=>
  rw [List.map_cons,List.nodup_cons] at hn
  have e:findI (y :: l) q=if y.key=q then some y else findI l q:=by
   unfold findI
   rw [List.find?_cons]
   by_cases h:y.key=q<;>simp [h]
  rw [e,List.mem_cons]
  split
  ·rename_i h
   constructor
   ·intro h1;cases h1;exact⟨.inl rfl,h⟩
   ·rintro ⟨h1|h1,h2⟩
    ·rw [h1]
    ·exact absurd (List.mem_map.2 ⟨x,h1,h2.trans h.symm⟩) hn.1
  ·rename_i h
   rw [ih hn.2]
   constructor
   ·rintro ⟨h1,h2⟩;exact⟨.inr h1,h2⟩
   ·rintro ⟨h1|h1,h2⟩
    ·rw [h1] at h2;exact absurd h2 h
    ·exact⟨h1,h2⟩
theorem Z0e2 {l:List Item} (hn:(l.map Item.key).Nodup) (q:Key):findI l.reverse q=findI l q:=by
 have hn2:(l.reverse.map Item.key).Nodup:=by rw [List.map_reverse];exact(List.reverse_perm _).nodup_iff.2 hn
 apply Option.ext
 intro x
 rw [Z0dx hn,Z0dx hn2,List.mem_reverse]
def backV (v:Vw):Vw:=⟨v.items.reverse,v.mode,v.minute,v.members.reverse⟩
theorem Z09r {v:Vw} (hn:(v.items.map Item.key).Nodup):SameV (backV v) v:=
 ⟨Z0e2 hn,rfl,rfl,fun r=>by unfold backV homeB;rw [List.any_reverse]⟩
theorem Z0si {l:List Scene} {s:ByteArray}:sceAt l s < l.length↔∃ x ∈ l,x.name=s:=by
 rcases Z0ej (n:=l.length) (p:=fun i=>decide ((l.getD i default).name=s)) with ⟨h1,h2,_⟩|⟨h1,h2⟩
 ·refine⟨fun _=>⟨l[firstI _ _]'h1,List.getElem_mem h1,?_⟩,fun _=>h1⟩
  have:=of_decide_eq_true h2
  rwa [Z0g2 _ _ h1] at this
 ·constructor
  ·intro h;unfold sceAt at h;omega
  ·rintro ⟨x,hx,e⟩
   obtain⟨i,hi,rfl⟩:=List.getElem_of_mem hx
   have:=h2 i hi
   rw [Z0g2 _ _ hi] at this
   simp [e] at this
theorem Z0e6 {l:List Scene} {s:ByteArray} (h:sceAt l s < l.length):findS l s ∈ l∧(findS l s).name=s:=by
 rcases Z0ej (n:=l.length) (p:=fun i=>decide ((l.getD i default).name=s)) with ⟨h1,h2,_⟩|⟨h1,h2⟩
 ·unfold findS
  rw [if_pos h]
  have h3:=of_decide_eq_true h2
  refine⟨?_,h3⟩
  unfold sceAt
  rw [Z0g2 _ _ h1];exact List.getElem_mem h1
 ·unfold sceAt at h;omega
theorem Z0sn {l:List Scene} (h:(l.map Scene.name).Nodup) {a b:Scene} (ha:a ∈ l) (hb:b ∈ l) (e:a.name=b.name):a=b:=by
 induction l with
 |nil=>cases ha
 |cons x l ih=>
  rw [List.map_cons,List.nodup_cons] at h
  rcases List.mem_cons.1 ha with e1|h1
  ·rcases List.mem_cons.1 hb with e2|h2
   ·rw [e1,e2]
   ·exact absurd (List.mem_map.2 ⟨b,h2,by rw [←e,e1]⟩) h.1
  ·rcases List.mem_cons.1 hb with e2|h2
   ·exact absurd (List.mem_map.2 ⟨a,h1,by rw [e,e2]⟩) h.1
   ·exact ih h.2 h1 h2
theorem Z0sk {s:Sco} {sc:List Scene} (hn:(sc.map Scene.name).Nodup) (x:Stp) (c:Cause) (i:Int):sceW s sc.reverse x c i=sceW s sc x c i:=by
 unfold sceW
 by_cases h:sceAt sc x.name < sc.length
 ·have h2:sceAt sc.reverse x.name < sc.reverse.length:=by
   rw [Z0si] at h ⊢
   obtain⟨y,hy,e⟩:=h
   exact⟨y,List.mem_reverse.2 hy,e⟩
  have e:findS sc.reverse x.name=findS sc x.name:=by
   obtain⟨a1,a2⟩:=Z0e6 h
   obtain⟨b1,b2⟩:=Z0e6 h2
   exact Z0sn hn (List.mem_reverse.1 b1) a1 (b2.trans a2.symm)
  rw [e]
  by_cases hc:checkS s.home (findS sc x.name)=0
  ·rw [if_pos ⟨h2,hc⟩,if_pos ⟨h,hc⟩]
  ·rw [if_neg (fun x=>hc x.2),if_neg (fun x=>hc x.2)]
 ·have h2:¬ sceAt sc.reverse x.name < sc.reverse.length:=fun h2=>by
   apply h
   rw [Z0si] at h2 ⊢
   obtain⟨y,hy,e⟩:=h2
   exact⟨y,List.mem_reverse.1 hy,e⟩
  rw [if_neg (fun x=>h2 x.1),if_neg (fun x=>h x.1)]
theorem Z09v {v w:Vw} (h:SameV v w) (dev:Int) (k:Clu) (n:Nat):bfrL v.items dev k n=bfrL w.items dev k n:=by
 unfold bfrL
 apply List.map_congr_left
 intro j _
 unfold befV
 rw [h.items]
theorem Z07n {v w:Vw} (h:SameV v w) (x:Stp) (k:Clu):aftL v x k=aftL w x k:=by
 unfold aftL parX
 rw [Z0da h,Z09v h]
theorem Z0x7 {s:Sco} {sc:List Scene} {v w:Vw} (hs:(sc.map Scene.name).Nodup) (h:SameV v w) (c:Cause) (x:Stp) (i:Int):stpW s sc.reverse v c x i=stpW s sc w c x i:=by
 unfold stpW
 have e1:setW s v x c i=setW s w x c i:=by unfold setW limX;rw [Z0da h]
 have e2:callW s v x c i=callW s w x c i:=by
  unfold callW
  rw [Z07n h]
  congr 1
  funext j
  unfold chgW
  rw [Z07n h,Z09v h]
 rw [e1,e2,Z0sk hs]
theorem Z0r6 {s:Sco} {sc:List Scene} {v w:Vw} (hs:(sc.map Scene.name).Nodup) (h:SameV v w) (r:Rul) (n:Nat):rulW s sc.reverse v r n=rulW s sc w r n:=by
 unfold rulW
 congr 1
 funext i
 exact Z0x7 hs h _ _ _
def backH (h:Hap):Hap:=⟨h.changed.reverse,h.events.reverse,h.fr,h.to,h.mode,h.start,h.held.reverse⟩
theorem Z0m6 (h:Hap):normH (backH h)=normH h:=by
 unfold normH backH
 have e1:sortK h.changed.reverse=sortK h.changed:=Z0tq fun x=>List.mem_reverse
 have e2:sortK h.events.reverse=sortK h.events:=Z0tq fun x=>List.mem_reverse
 have e3:sortS h.held.reverse=sortS h.held:=Z0tx fun x=>List.mem_reverse
 simp only [e1,e2,e3]
theorem Z0p6 {v w:Vw} (hv:SameV v w) (h:Hap) (l:List Rul):ranL v (backH h) l.reverse=(ranL w h l).reverse:=by
 unfold ranL
 rw [List.filter_reverse]
 congr 1
 apply List.filter_congr
 intro r _
 unfold ranB anyB
 rw [Z0m6,Z0y9 hv]
theorem Z0rn {s:Sco} {sc:List Scene} {v:Vw} {h:Hap} {l:List Rul} (hs:(sc.map Scene.name).Nodup) (hv:(v.items.map Item.key).Nodup) :
  runO s sc.reverse (backV v) (backH h) l.reverse=runO s sc v h l:=by
 have hsv:=Z09r hv
 have e:=Z0p6 hsv h l
 unfold runO
 rw [e]
 have h1:isortR ordW (allW s sc.reverse (backV v) (ranL v h l).reverse)=isortR ordW (allW s sc v (ranL v h l)):=by
  refine Z0ij to_ord ?_
  have:(fun r:Rul=>rulW s sc.reverse (backV v) r r.steps.length)=fun r=>rulW s sc v r r.steps.length:=funext fun r=>Z0r6 hs hsv r _
  unfold allW
  rw [this]
  exact Z0o8 (List.reverse_perm _) _
 have h2:isortR ordW (allM (ranL v h l).reverse)=isortR ordW (allM (ranL v h l)):=Z0ij to_ord (Z0o8 (List.reverse_perm _) _)
 have h3:sortS ((ranL v h l).reverse.map Rul.name)=sortS ((ranL v h l).map Rul.name):=Z0tx fun x=>by simp
 have h4:sortS (allN (ranL v h l).reverse)=sortS (allN (ranL v h l)):=Z0tx fun x=>by simp [allN]
 rw [h1,h2,h3,h4]
theorem runE_back {s:Sco} {l:List Rul}:runE s l.reverse=0↔runE s l=0:=by
 constructor
 ·intro h
  obtain⟨h1,h2⟩:=Z0rg h
  exact Z0rf h1 ((Z0re s l).1 h2)
 ·intro h
  obtain⟨h1,h2⟩:=Z0rg h
  exact Z0rf h1 ((Z0re s l).2 h2)
theorem Z0ri {s:Sco} {sc:List Scene} {v:Vw} {h:Hap} {l:List Rul} (hs:(sc.map Scene.name).Nodup) (hv:(v.items.map Item.key).Nodup) :
  runR s sc.reverse (backV v) (backH h) l.reverse=runR s sc v h l:=by
 unfold runR
 rw [Z0rn hs hv]
 by_cases h1:runE s l=0
 ·rw [if_pos h1,if_pos (runE_back.2 h1)]
 ·rw [if_neg h1,if_neg (fun x=>h1 (runE_back.1 x))]
end Go.Abs
namespace Go.Abs
open Go.Proofs
set_option maxRecDepth 10000
def ruleH (r:Rul):Bool:=decide (12 < r.on.length) || decide (12 < r.steps.length) || decide (300 < sizeE r.cond) || anyN r.steps.length fun i=>decide (300 < sizeE (r.steps.getD i default).expr)
def bigC (c:RuC):Bool:=decide (100 < c.s.home.clusters.length∨30 < c.s.home.devices.length∨30 < c.s.modes.length∨300 < c.s.scenes.length∨20 < c.sc.length∨20 < c.l.length∨100 < c.v.items.length∨30 < c.v.members.length∨50 < c.h.changed.length∨50 < c.h.events.length∨50 < c.h.held.length)
def greatR (c:RuC):Bool:=bigC c ||(anyN c.sc.length fun i=>decide (60 < (c.sc.getD i default).items.length)) || anyN c.l.length fun i=>ruleH (c.l.getD i default)
set_option maxHeartbeats 4000000 in
theorem Z01n (c:RuC) (hc:smallRuC c):AC Tryz.prog 9 [.pv (.agg (cRuC c))] [] (.pv (vbool (greatR c))) []:=by
 have hbig:bigC c=true→greatR c=true:=fun h=>by unfold greatR;rw [h];rfl
 unfold bigC at hbig
 rw [decide_eq_true_eq] at hbig
 have hl:=hc.l.2
 refine AC.of_awp (T:=T) T_ok hm Tryz.call9 Tryz.func9 rfl rfl rfl ?_
 conv=>whnf
 repeat (any_goals (first
  |(refine⟨fun(h:(_:Bool)=true)=>?_,fun(h:(_:Bool)=false)=>?_⟩<;>(try simp only [Q0,Q1,Q2,Q3,Q4,Q5,Q6,Q7,Q8,reduceCtorEq] at h)<;>(conv=>whnf))))
 all_goals first
  |(exact PSub.lit_sb (hbig (by omega)).symm)
  |skip
 have hb:bigC c=false:=decide_eq_false (by omega)
 have hcut:greatR c=((anyN c.sc.length fun i=>decide (60 < (c.sc.getD i default).items.length)) || anyN c.l.length fun i=>ruleH (c.l.getD i default)):=by
  unfold greatR;rw [hb,Bool.false_or]
 rw [hcut]
 clear hcut hb hbig
 refine loop_k (ι:=Nat) [1] [1] (fun k=>k≤c.sc.length∧(∀ j,j < k→decide (60 < (c.sc.getD j default).items.length)=false)) (fun k=>c.sc.length - k) 0 (fun k=>[(3,.pv (vint k))]) (fun _=>[]) [] ⟨Nat.zero_le _,fun j h=>absurd h (by omega)⟩ ?_ (fun k hk=>?_)
 ·(repeat' (first|exact PSub.rfl|exact rfl|exact PSubs.rfl|exact trivial|exact PSub.lit_sb rfl|refine And.intro ?_ ?_))
 obtain⟨hkn,hinv⟩:=hk
 conv=>whnf
 repeat (any_goals (first
  |(refine⟨fun(h:(_:Bool)=true)=>?_,fun(h:(_:Bool)=false)=>?_⟩<;>(try simp only [Q0,Q1,Q2,Q3,Q4,Q5,Q6,Q7,Q8,reduceCtorEq] at h)<;>(conv=>whnf))
  |(refine And.intro (by(try simp only [Int.toNat_natCast]);omega) ?_;conv=>whnf)
  |(refine .inl ⟨wrap64 (by omega),?_⟩;conv=>whnf)))
 ·refine PSub.lit_sb ?_
  rw [Z08e (k:=k) (by omega) (decide_eq_true (by omega)),Bool.true_or]
 ·refine⟨k+1,[],⟨by omega,?_⟩,by first|omega|(dsimp only;omega),?_⟩
  rotate_left
  ·(repeat' (first|exact PSub.rfl|exact rfl|exact PSubs.rfl|exact trivial|exact PSub.lit_sb rfl|refine And.intro ?_ ?_))
  intro j hj
  by_cases e:j=k
  ·subst e;exact decide_eq_false (by omega)
  ·exact hinv j (by omega)
 have hn0:(anyN c.sc.length fun i=>decide (60 < (c.sc.getD i default).items.length))=false:=Z08a fun j hj=>hinv j (by omega)
 rw [hn0,Bool.false_or]
 clear hinv hn0
 refine loop_k (ι:=Nat) [1] [1] (fun k=>k≤c.l.length∧(∀ j,j < k→ruleH (c.l.getD j default)=false)) (fun k=>c.l.length - k) 0 (fun k=>[(4,.pv (vint k))]) (fun _=>[]) [] ⟨Nat.zero_le _,fun j h=>absurd h (by omega)⟩ ?_ (fun k hk=>?_)
 ·(repeat' (first|exact PSub.rfl|exact rfl|exact PSubs.rfl|exact trivial|exact PSub.lit_sb rfl|refine And.intro ?_ ?_))
 obtain⟨hkn,hinv⟩:=hk
 conv=>whnf
 refine⟨fun h=>?_,fun h=>?_⟩<;>(try simp only [Q0,Q1,Q2,Q3,Q4,Q5,Q6,Q7,Q8,reduceCtorEq] at h)<;>(conv=>whnf)
 ·have hg:=hl k (by omega)
  repeat (any_goals (first
   |(refine⟨fun(h:(_:Bool)=true)=>?_,fun(h:(_:Bool)=false)=>?_⟩<;>(try simp only [Q0,Q1,Q2,Q3,Q4,Q5,Q6,Q7,Q8,reduceCtorEq] at h)<;>(conv=>whnf))
   |(refine .inl ⟨_,Z03o (c.l.getD k default).cond hg.1,?_⟩;conv=>whnf)
   |(refine And.intro (by(try simp only [Int.toNat_natCast]);omega) ?_;conv=>whnf)))
  ·exact PSub.lit_sb (Z08e (k:=k) (by omega) (by unfold ruleH;rw [decide_eq_true (show 12 < (c.l.getD k default).on.length by omega)];rfl)).symm
  ·exact PSub.lit_sb (Z08e (k:=k) (by omega) (by unfold ruleH;rw [decide_eq_true (show 12 < (c.l.getD k default).steps.length by omega),Bool.or_true];rfl)).symm
  ·exact PSub.lit_sb (Z08e (k:=k) (by omega) (by unfold ruleH;rw [decide_eq_true (show 300 < sizeE (c.l.getD k default).cond by omega),Bool.or_true];rfl)).symm
  ·have hrg:ruleH (c.l.getD k default)=anyN (c.l.getD k default).steps.length fun i=>decide (300 < sizeE ((c.l.getD k default).steps.getD i default).expr):=by
    unfold ruleH
    rw [decide_eq_false (by omega),decide_eq_false (by omega),decide_eq_false (by omega)]
    rfl
   have hinv0:=hinv
   have hkn0:=hkn
   refine loop_k (ι:=Nat) [1,4,5] [1,5] (fun q=>q≤(c.l.getD k default).steps.length∧∀ j,j < q→decide (300 < sizeE ((c.l.getD k default).steps.getD j default).expr)=false) (fun q=>(c.l.getD k default).steps.length - q) 0 (fun q=>[(6,.pv (vint q))]) (fun _=>[]) [] ⟨Nat.zero_le _,fun j h=>absurd h (by omega)⟩ ?_ (fun q hk=>?_)
   ·(repeat' (first|exact PSub.rfl|exact rfl|exact PSubs.rfl|exact trivial|exact PSub.lit_sb rfl|refine And.intro ?_ ?_))
   obtain⟨hkn,hinv⟩:=hk
   conv=>whnf
   refine⟨fun h=>?_,fun h=>?_⟩<;>(try simp only [Q0,Q1,Q2,Q3,Q4,Q5,Q6,Q7,Q8,reduceCtorEq] at h)<;>(conv=>whnf)
   ·have hg2:=hg.2 q (by omega)
    repeat (any_goals (first
     |(refine⟨fun(h:(_:Bool)=true)=>?_,fun(h:(_:Bool)=false)=>?_⟩<;>(try simp only [Q0,Q1,Q2,Q3,Q4,Q5,Q6,Q7,Q8,reduceCtorEq] at h)<;>(conv=>whnf))
     |(refine .inl ⟨_,Z03o ((c.l.getD k default).steps.getD q default).expr hg2,?_⟩;conv=>whnf)
     |(refine And.intro (by(try simp only [Int.toNat_natCast]);omega) ?_;conv=>whnf)
     |(refine .inl ⟨wrap64 (by omega),?_⟩;conv=>whnf)))
    ·exact PSub.lit_sb (Z08e (k:=k) (by omega) (by rw [hrg];exact Z08e (k:=q) (by omega) (decide_eq_true (by omega)))).symm
    ·refine⟨q+1,[],⟨by omega,?_⟩,by first|omega|(dsimp only;omega),?_⟩
     rotate_left
     ·(repeat' (first|exact PSub.rfl|exact rfl|exact PSubs.rfl|exact trivial|exact PSub.lit_sb rfl|refine And.intro ?_ ?_))
     intro j hj
     by_cases e:j=q
     ·subst e;exact decide_eq_false (by omega)
     ·exact hinv j (by omega)
   ·repeat (any_goals (first
     |(refine .inl ⟨wrap64 (by omega),?_⟩;conv=>whnf)))
    refine⟨k+1,[],⟨by omega,?_⟩,by first|omega|(dsimp only;omega),?_⟩
    rotate_left
    ·(repeat' (first|exact PSub.rfl|exact rfl|exact PSubs.rfl|exact trivial|exact PSub.lit_sb rfl|refine And.intro ?_ ?_))
    intro j hj
    by_cases e:j=k
    ·subst e
     rw [hrg]
     exact Z08a fun i hi=>hinv i (by omega)
    ·exact hinv0 j (by omega)
 ·exact PSub.lit_sb (Z08a fun j hj=>hinv j (by omega)).symm
def unlikeB (c:RuC):Bool:=!(anyN c.v.items.length fun k=>anyN k fun i=>decide ((c.v.items.getD k default).key=(c.v.items.getD i default).key)) && decide ((sortS (c.sc.map Scene.name)).length=(c.sc.map Scene.name).length) && decide ((sortS (c.v.members.map Mem.name)).length=(c.v.members.map Mem.name).length)
theorem Z0ye {c:RuC} (h:unlikeB c=true):(c.v.items.map Item.key).Nodup∧(c.sc.map Scene.name).Nodup:=by
 unfold unlikeB at h
 simp only [Bool.and_eq_true,Bool.not_eq_true',decide_eq_true_eq] at h
 obtain⟨⟨h1,h2⟩,h3⟩:=h
 refine⟨?_,Z0u0 h2⟩
 rw [List.nodup_iff_pairwise_ne,List.pairwise_iff_getElem]
 intro i j hi hj hij e
 rw [List.length_map] at hi hj
 rw [List.getElem_map,List.getElem_map] at e
 have:(anyN c.v.items.length fun k=>anyN k fun i=>decide ((c.v.items.getD k default).key=(c.v.items.getD i default).key))=true:=
  Z08e hj (Z08e hij (decide_eq_true (by rw [Z0g2 _ _ hj,Z0g2 _ _ hi];exact e.symm)))
 rw [this] at h1;cases h1
set_option maxHeartbeats 2000000 in
theorem Z01q (c:RuC) (hc:smallRuC c):AC Tryz.prog 16 [.pv (.agg (cRuC c))] [] (.pv (vbool (unlikeB c))) []:=by
 have hl1:c.sc.length≤1048576:=hc.sc.1
 have hl2:c.v.items.length≤1048576:=hc.v.1
 have hl3:c.v.members.length≤1048576:=hc.v.2
 refine AC.of_awp (T:=T) T_ok hm Tryz.call16 Tryz.func16 rfl rfl rfl ?_
 conv=>whnf
 refine loop_k (ι:=Nat) [1,4] [1] (fun k=>k≤c.sc.length) (fun k=>c.sc.length - k) 0 (fun k=>[(3,.own 500),(5,.pv (vint k))]) (fun k=>[(500,rowL 1 cstr ((c.sc.take k).map Scene.name))]) [] (Nat.zero_le _) ?_ (fun k hk=>?_)
 ·(repeat' (first|exact PSub.rfl|exact rfl|exact PSubs.rfl|exact trivial|exact PSub.lit_sb rfl|refine And.intro ?_ ?_))
  all_goals (intro i hi;exact absurd hi (by simp))
 have hkl:((c.sc.take k).map Scene.name).length=k:=by rw [List.length_map,List.length_take];omega
 conv=>whnf
 refine⟨fun h=>?_,fun h=>?_⟩<;>(try simp only [Q0,Q1,Q2,Q3,Q4,Q5,Q6,Q7,Q8,reduceCtorEq] at h)<;>(conv=>whnf)
 ·have hk2:k < c.sc.length:=by omega
  repeat (any_goals (first
   |(refine And.intro (by(try simp only [Int.toNat_natCast]);omega) ?_;conv=>whnf)
   |(refine .inl ⟨wrap64 (by omega),?_⟩;conv=>whnf)))
  refine⟨k+1,[(500,24)],by omega,by omega,?_⟩
  rw [Z0xx hk2,List.map_append]
  conv=>whnf
  (repeat' (first|exact PSub.rfl|exact rfl|exact PSubs.rfl|exact trivial|exact PSub.lit_sb rfl|refine And.intro ?_ ?_))
  all_goals first
   |(simp;done)
   |skip
  all_goals
   refine Z0qz (fun i hi=>by simp only [if_pos hi];exact PSubs.rfl) (by simp only [if_neg (Nat.lt_irrefl _),Nat.sub_self];exact PSubs.rfl)
 have e:k=c.sc.length:=by omega
 subst e
 rw [List.take_length]
 conv=>whnf
 refine loop_k (ι:=Nat) [1] [1] (fun k=>k≤c.v.members.length) (fun k=>c.v.members.length - k) 0 (fun k=>[(3,.pv (roL 1 cstr (c.sc.map Scene.name))),(4,.own 501),(6,.pv (vint k))]) (fun k=>[(501,rowL 1 cstr ((c.v.members.take k).map Mem.name))]) [] (Nat.zero_le _) ?_ (fun k hk=>?_)
 ·(repeat' (first|exact PSub.rfl|exact rfl|exact PSubs.rfl|exact trivial|exact PSub.lit_sb rfl|refine And.intro ?_ ?_))
  all_goals first
   |(intro i hi;exact absurd hi (by simp);done)
   |(intro i hi;exact PSubs.rfl)
 have hkl:((c.v.members.take k).map Mem.name).length=k:=by rw [List.length_map,List.length_take];omega
 conv=>whnf
 refine⟨fun h=>?_,fun h=>?_⟩<;>(try simp only [Q0,Q1,Q2,Q3,Q4,Q5,Q6,Q7,Q8,reduceCtorEq] at h)<;>(conv=>whnf)
 ·have hk2:k < c.v.members.length:=by omega
  repeat (any_goals (first
   |(refine And.intro (by(try simp only [Int.toNat_natCast]);omega) ?_;conv=>whnf)
   |(refine .inl ⟨wrap64 (by omega),?_⟩;conv=>whnf)))
  refine⟨k+1,[(501,42)],by omega,by omega,?_⟩
  rw [Z0xx hk2,List.map_append]
  conv=>whnf
  (repeat' (first|exact PSub.rfl|exact rfl|exact PSubs.rfl|exact trivial|exact PSub.lit_sb rfl|refine And.intro ?_ ?_))
  all_goals first
   |(simp;done)
   |skip
  all_goals
   refine Z0qz (fun i hi=>by simp only [if_pos hi];exact PSubs.rfl) (by simp only [if_neg (Nat.lt_irrefl _),Nat.sub_self];exact PSubs.rfl)
 have e:k=c.v.members.length:=by omega
 subst e
 rw [List.take_length]
 conv=>whnf
 refine loop_k (ι:=Nat) [1] [1] (fun k=>k≤c.v.items.length∧∀ j,j < k→(anyN j fun i=>decide ((c.v.items.getD j default).key=(c.v.items.getD i default).key))=false) (fun k=>c.v.items.length - k) 0 (fun k=>[(3,.pv (roL 1 cstr (c.sc.map Scene.name))),(4,.pv (roL 1 cstr (c.v.members.map Mem.name))),(7,.pv (vint k))]) (fun k=>[]) [] ⟨Nat.zero_le _,fun j h=>absurd h (by omega)⟩ ?_ (fun k hk=>?_)
 ·(repeat' (first|exact PSub.rfl|exact rfl|exact PSubs.rfl|exact trivial|exact PSub.lit_sb rfl|refine And.intro ?_ ?_))
  all_goals (intro i hi;exact PSubs.rfl)
 obtain⟨hk,hinv⟩:=hk
 conv=>whnf
 refine⟨fun h=>?_,fun h=>?_⟩<;>(try simp only [Q0,Q1,Q2,Q3,Q4,Q5,Q6,Q7,Q8,reduceCtorEq] at h)<;>(conv=>whnf)
 ·have hk2:k < c.v.items.length:=by omega
  skip
  have hinv0:=hinv
  refine loop_k (ι:=Nat) [1,3,4,7] [1] (fun q=>q≤k∧(∀ j,j < q→decide ((c.v.items.getD k default).key=(c.v.items.getD j default).key)=false)) (fun q=>k - q) 0 (fun q=>[(8,.pv (vint q))]) (fun _=>[]) [] ⟨Nat.zero_le _,fun j h=>absurd h (by omega)⟩ ?_ (fun q hk=>?_)
  ·(repeat' (first|exact PSub.rfl|exact rfl|exact PSubs.rfl|exact trivial|exact PSub.lit_sb rfl|refine And.intro ?_ ?_))
  obtain⟨hkn,hinv⟩:=hk
  conv=>whnf
  repeat (any_goals (first
   |(refine⟨fun(h:(_:Bool)=true)=>?_,fun(h:(_:Bool)=false)=>?_⟩<;>(try simp only [Q0,Q1,Q2,Q3,Q4,Q5,Q6,Q7,Q8,reduceCtorEq] at h)<;>(conv=>whnf))
   |(refine And.intro (by(try simp only [Int.toNat_natCast]);omega) ?_;conv=>whnf)
   |(refine And.intro (show(_:Bool)=true from by kernel_rfl) ?_;conv=>whnf)
   |(refine .inl ⟨wrap64 (by omega),?_⟩;conv=>whnf)))
  ·have e:=of_decide_eq_true ((key_eq _ _).symm.trans h)
   refine PSub.lit_sb ?_
   unfold unlikeB
   rw [Z08e hk2 (Z08e (show q < k by omega) (decide_eq_true e))]
   rfl
  ·have e:=(key_eq _ _).symm.trans h
   refine⟨q+1,[],⟨by omega,?_⟩,by first|omega|(dsimp only;omega),?_⟩
   rotate_left
   ·(repeat' (first|exact PSub.rfl|exact rfl|exact PSubs.rfl|exact trivial|exact PSub.lit_sb rfl|refine And.intro ?_ ?_))
   intro j hj
   by_cases e2:j=q
   ·subst e2;exact e
   ·exact hinv j (by omega)
  ·refine⟨k+1,[],⟨by omega,?_⟩,by first|omega|(dsimp only;omega),?_⟩
   rotate_left
   ·(repeat' (first|exact PSub.rfl|exact rfl|exact PSubs.rfl|exact trivial|exact PSub.lit_sb rfl|refine And.intro ?_ ?_))
   intro j hj
   by_cases e:j=k
   ·subst e
    exact Z08a fun i hi=>hinv i (by omega)
   ·exact hinv0 j (by omega)
 have hany:(anyN c.v.items.length fun k=>anyN k fun i=>decide ((c.v.items.getD k default).key=(c.v.items.getD i default).key))=false:=Z08a fun j hj=>hinv j (by omega)
 unfold unlikeB
 rw [hany]
 repeat (any_goals (first
  |(refine⟨fun(h:(_:Bool)=true)=>?_,fun(h:(_:Bool)=false)=>?_⟩<;>(try simp only [Q0,Q1,Q2,Q3,Q4,Q5,Q6,Q7,Q8,reduceCtorEq] at h)<;>(conv=>whnf))
  |(refine .inl ⟨_,Z02k (c.sc.map Scene.name) (by rw [List.length_map];exact hl1),?_⟩;conv=>whnf)
  |(refine .inl ⟨_,Z02k (c.v.members.map Mem.name) (by rw [List.length_map];exact hl3),?_⟩;conv=>whnf)))
 ·refine PSub.sb ?_
  have e1:(sortS (c.sc.map Scene.name)).length=(c.sc.map Scene.name).length:=by omega
  rw [decide_eq_true e1]
  show _=decide _
  exact decide_eq_decide.2 (by omega)
 ·refine PSub.lit_sb ?_
  have e1:¬ (sortS (c.sc.map Scene.name)).length=(c.sc.map Scene.name).length:=by omega
  rw [decide_eq_false e1]
  rfl
end Go.Abs
namespace Go.Abs
open Go.Proofs
set_option maxRecDepth 10000
def backC (c:RuC):RuC:=⟨c.s,c.sc.reverse,c.l.reverse,backV c.v,backH c.h⟩
def nilV:AV:=.pv (.val (.slice none 0 0))
def bakB (c:RuC) (a b d e f g h:AV):AObj:=.box ((cSco c.s).map .pv ++ [a,b,d,.pv (vstr c.v.mode),.pv (vint c.v.minute),e,f,g,.pv (vint c.h.fr),.pv (vint c.h.to),.pv (vstr c.h.mode),.pv (vbool c.h.start),h])
theorem Z0qa {α:Type} [Inhabited α] {l:List α} {k:Nat} (h:k < l.length):l.reverse.take (k+1)=l.reverse.take k ++ [l.getD (l.length - 1 - k) default]:=by
 rw [Z0xx (by rw [List.length_reverse];exact h)]
 congr 2
 rw [Z0g2 _ _ (by rw [List.length_reverse];exact h),Z0g2 _ _ (by omega),List.getElem_reverse]
set_option maxHeartbeats 4000000 in
theorem Z01m (c:RuC) (hc:smallRuC c):AC Tryz.prog 17 [.pv (.agg (cRuC c))] [] (.pv (.agg (cRuC (backC c)))) []:=by
 have hl0:c.sc.length≤1048576:=hc.sc.1
 have hl1:c.l.length≤1048576:=hc.l.1
 have hl2:c.v.items.length≤1048576:=hc.v.1
 have hl3:c.v.members.length≤1048576:=hc.v.2
 have hl4:c.h.changed.length≤1048576:=hc.h.c
 have hl5:c.h.events.length≤1048576:=hc.h.e
 have hl6:c.h.held.length≤1048576:=hc.h.h
 refine AC.of_awp (T:=T) T_ok hm Tryz.call17 Tryz.func17 rfl rfl rfl ?_
 conv=>whnf
 repeat (any_goals (first
  |(refine .inl ⟨wrap64 (by omega),?_⟩;conv=>whnf)))
 refine loop_k (ι:=Nat) [1,2,3] [1,2] (fun k=>k≤c.sc.length) (fun k=>c.sc.length - k) 0 (fun k=>[(4,.pv (vint ((c.sc.length:Int) - 1 - k)))]) (fun k=>[(3,bakB c (.own 510) nilV nilV nilV nilV nilV nilV),(510,rowL 2 cSce (c.sc.reverse.take k))]) [] (Nat.zero_le _) ?_ (fun k hk=>?_)
 ·conv=>whnf
  (repeat' (first|exact PSub.rfl|exact rfl|exact PSubs.rfl|exact trivial|exact PSub.lit_sb rfl|refine And.intro ?_ ?_))
  all_goals first
   |(intro i hi;exact absurd hi (by simp);done)
   |(intro i hi;exact PSubs.rfl)
   |exact PSub.int (by omega)
   |trace_state
 have hkl:(c.sc.reverse.take k).length=k:=by rw [List.length_take,List.length_reverse];omega
 have hti:((c.sc.length:Int) - 1 - (k:Int)).toNat=c.sc.length - 1 - k:=by omega
 conv=>whnf
 refine⟨fun h=>?_,fun h=>?_⟩<;>(try simp only [Q0,Q1,Q2,Q3,Q4,Q5,Q6,Q7,Q8,reduceCtorEq] at h)<;>(conv=>whnf)
 ·have hk2:k < c.sc.length:=by omega
  repeat (any_goals (first
   |(refine And.intro (by(try simp only [Int.toNat_natCast]);omega) ?_;conv=>whnf)
   |(refine And.intro (show(_:Bool)=true from by kernel_rfl) ?_;conv=>whnf)
   |(refine .inl ⟨wrap64 (by omega),?_⟩;conv=>whnf)))
  refine⟨k+1,[(510,50)],by omega,by omega,?_⟩
  rw [Z0qa hk2]
  simp only [hti]
  conv=>whnf
  (repeat' (first|exact PSub.rfl|exact rfl|exact PSubs.rfl|exact trivial|exact PSub.lit_sb rfl|refine And.intro ?_ ?_))
  all_goals first
   |(simp;done)
   |exact PSub.int (by omega)
   |(refine Z0qz (fun i hi=>by simp only [if_pos hi];exact PSubs.rfl) (by simp only [if_neg (Nat.lt_irrefl _),Nat.sub_self];exact PSubs.rfl))
   |trace_state
 have e:k=c.sc.length:=by omega
 subst e
 rw [show c.sc.reverse.take c.sc.length=c.sc.reverse from List.take_of_length_le (by rw [List.length_reverse];exact Nat.le_refl _)]
 clear hk hkl hti
 repeat (any_goals (first
  |(refine .inl ⟨wrap64 (by omega),?_⟩;conv=>whnf)))
 refine loop_k (ι:=Nat) [1,2,3] [1,2] (fun k=>k≤c.l.length) (fun k=>c.l.length - k) 0 (fun k=>[(5,.pv (vint ((c.l.length:Int) - 1 - k)))]) (fun k=>[(3,bakB c (.pv (roL 2 cSce c.sc.reverse)) (.own 511) nilV nilV nilV nilV nilV),(511,rowL 15 cRul (c.l.reverse.take k))]) [] (Nat.zero_le _) ?_ (fun k hk=>?_)
 ·conv=>whnf
  (repeat' (first|exact PSub.rfl|exact rfl|exact PSubs.rfl|exact trivial|exact PSub.lit_sb rfl|refine And.intro ?_ ?_))
  all_goals first
   |(intro i hi;exact absurd hi (by simp);done)
   |(intro i hi;exact PSubs.rfl)
   |exact PSub.int (by omega)
   |trace_state
 have hkl:(c.l.reverse.take k).length=k:=by rw [List.length_take,List.length_reverse];omega
 have hti:((c.l.length:Int) - 1 - (k:Int)).toNat=c.l.length - 1 - k:=by omega
 conv=>whnf
 refine⟨fun h=>?_,fun h=>?_⟩<;>(try simp only [Q0,Q1,Q2,Q3,Q4,Q5,Q6,Q7,Q8,reduceCtorEq] at h)<;>(conv=>whnf)
 ·have hk2:k < c.l.length:=by omega
  repeat (any_goals (first
   |(refine And.intro (by(try simp only [Int.toNat_natCast]);omega) ?_;conv=>whnf)
   |(refine And.intro (show(_:Bool)=true from by kernel_rfl) ?_;conv=>whnf)
   |(refine .inl ⟨wrap64 (by omega),?_⟩;conv=>whnf)))
  refine⟨k+1,[(511,68)],by omega,by omega,?_⟩
  rw [Z0qa hk2]
  simp only [hti]
  conv=>whnf
  (repeat' (first|exact PSub.rfl|exact rfl|exact PSubs.rfl|exact trivial|exact PSub.lit_sb rfl|refine And.intro ?_ ?_))
  all_goals first
   |(simp;done)
   |exact PSub.int (by omega)
   |(refine Z0qz (fun i hi=>by simp only [if_pos hi];exact PSubs.rfl) (by simp only [if_neg (Nat.lt_irrefl _),Nat.sub_self];exact PSubs.rfl))
   |trace_state
 have e:k=c.l.length:=by omega
 subst e
 rw [show c.l.reverse.take c.l.length=c.l.reverse from List.take_of_length_le (by rw [List.length_reverse];exact Nat.le_refl _)]
 clear hk hkl hti
 repeat (any_goals (first
  |(refine .inl ⟨wrap64 (by omega),?_⟩;conv=>whnf)))
 refine loop_k (ι:=Nat) [1,2,3] [1,2] (fun k=>k≤c.v.items.length) (fun k=>c.v.items.length - k) 0 (fun k=>[(6,.pv (vint ((c.v.items.length:Int) - 1 - k)))]) (fun k=>[(3,bakB c (.pv (roL 2 cSce c.sc.reverse)) (.pv (roL 15 cRul c.l.reverse)) (.own 512) nilV nilV nilV nilV),(512,rowL 7 cItem (c.v.items.reverse.take k))]) [] (Nat.zero_le _) ?_ (fun k hk=>?_)
 ·conv=>whnf
  (repeat' (first|exact PSub.rfl|exact rfl|exact PSubs.rfl|exact trivial|exact PSub.lit_sb rfl|refine And.intro ?_ ?_))
  all_goals first
   |(intro i hi;exact absurd hi (by simp);done)
   |(intro i hi;exact PSubs.rfl)
   |exact PSub.int (by omega)
   |trace_state
 have hkl:(c.v.items.reverse.take k).length=k:=by rw [List.length_take,List.length_reverse];omega
 have hti:((c.v.items.length:Int) - 1 - (k:Int)).toNat=c.v.items.length - 1 - k:=by omega
 conv=>whnf
 refine⟨fun h=>?_,fun h=>?_⟩<;>(try simp only [Q0,Q1,Q2,Q3,Q4,Q5,Q6,Q7,Q8,reduceCtorEq] at h)<;>(conv=>whnf)
 ·have hk2:k < c.v.items.length:=by omega
  repeat (any_goals (first
   |(refine And.intro (by(try simp only [Int.toNat_natCast]);omega) ?_;conv=>whnf)
   |(refine And.intro (show(_:Bool)=true from by kernel_rfl) ?_;conv=>whnf)
   |(refine .inl ⟨wrap64 (by omega),?_⟩;conv=>whnf)))
  refine⟨k+1,[(512,89)],by omega,by omega,?_⟩
  rw [Z0qa hk2]
  simp only [hti]
  conv=>whnf
  (repeat' (first|exact PSub.rfl|exact rfl|exact PSubs.rfl|exact trivial|exact PSub.lit_sb rfl|refine And.intro ?_ ?_))
  all_goals first
   |(simp;done)
   |exact PSub.int (by omega)
   |(refine Z0qz (fun i hi=>by simp only [if_pos hi];exact PSubs.rfl) (by simp only [if_neg (Nat.lt_irrefl _),Nat.sub_self];exact PSubs.rfl))
   |trace_state
 have e:k=c.v.items.length:=by omega
 subst e
 rw [show c.v.items.reverse.take c.v.items.length=c.v.items.reverse from List.take_of_length_le (by rw [List.length_reverse];exact Nat.le_refl _)]
 clear hk hkl hti
 repeat (any_goals (first
  |(refine .inl ⟨wrap64 (by omega),?_⟩;conv=>whnf)))
 refine loop_k (ι:=Nat) [1,2,3] [1,2] (fun k=>k≤c.v.members.length) (fun k=>c.v.members.length - k) 0 (fun k=>[(7,.pv (vint ((c.v.members.length:Int) - 1 - k)))]) (fun k=>[(3,bakB c (.pv (roL 2 cSce c.sc.reverse)) (.pv (roL 15 cRul c.l.reverse)) (.pv (roL 7 cItem c.v.items.reverse)) (.own 513) nilV nilV nilV),(513,rowL 5 cMem (c.v.members.reverse.take k))]) [] (Nat.zero_le _) ?_ (fun k hk=>?_)
 ·conv=>whnf
  (repeat' (first|exact PSub.rfl|exact rfl|exact PSubs.rfl|exact trivial|exact PSub.lit_sb rfl|refine And.intro ?_ ?_))
  all_goals first
   |(intro i hi;exact absurd hi (by simp);done)
   |(intro i hi;exact PSubs.rfl)
   |exact PSub.int (by omega)
   |trace_state
 have hkl:(c.v.members.reverse.take k).length=k:=by rw [List.length_take,List.length_reverse];omega
 have hti:((c.v.members.length:Int) - 1 - (k:Int)).toNat=c.v.members.length - 1 - k:=by omega
 conv=>whnf
 refine⟨fun h=>?_,fun h=>?_⟩<;>(try simp only [Q0,Q1,Q2,Q3,Q4,Q5,Q6,Q7,Q8,reduceCtorEq] at h)<;>(conv=>whnf)
 ·have hk2:k < c.v.members.length:=by omega
  repeat (any_goals (first
   |(refine And.intro (by(try simp only [Int.toNat_natCast]);omega) ?_;conv=>whnf)
   |(refine And.intro (show(_:Bool)=true from by kernel_rfl) ?_;conv=>whnf)
   |(refine .inl ⟨wrap64 (by omega),?_⟩;conv=>whnf)))
  refine⟨k+1,[(513,111)],by omega,by omega,?_⟩
  rw [Z0qa hk2]
  simp only [hti]
  conv=>whnf
  (repeat' (first|exact PSub.rfl|exact rfl|exact PSubs.rfl|exact trivial|exact PSub.lit_sb rfl|refine And.intro ?_ ?_))
  all_goals first
   |(simp;done)
   |exact PSub.int (by omega)
   |(refine Z0qz (fun i hi=>by simp only [if_pos hi];exact PSubs.rfl) (by simp only [if_neg (Nat.lt_irrefl _),Nat.sub_self];exact PSubs.rfl))
   |trace_state
 have e:k=c.v.members.length:=by omega
 subst e
 rw [show c.v.members.reverse.take c.v.members.length=c.v.members.reverse from List.take_of_length_le (by rw [List.length_reverse];exact Nat.le_refl _)]
 clear hk hkl hti
 repeat (any_goals (first
  |(refine .inl ⟨wrap64 (by omega),?_⟩;conv=>whnf)))
 refine loop_k (ι:=Nat) [1,2,3] [1,2] (fun k=>k≤c.h.changed.length) (fun k=>c.h.changed.length - k) 0 (fun k=>[(8,.pv (vint ((c.h.changed.length:Int) - 1 - k)))]) (fun k=>[(3,bakB c (.pv (roL 2 cSce c.sc.reverse)) (.pv (roL 15 cRul c.l.reverse)) (.pv (roL 7 cItem c.v.items.reverse)) (.pv (roL 5 cMem c.v.members.reverse)) (.own 514) nilV nilV),(514,rowL 3 cKey (c.h.changed.reverse.take k))]) [] (Nat.zero_le _) ?_ (fun k hk=>?_)
 ·conv=>whnf
  (repeat' (first|exact PSub.rfl|exact rfl|exact PSubs.rfl|exact trivial|exact PSub.lit_sb rfl|refine And.intro ?_ ?_))
  all_goals first
   |(intro i hi;exact absurd hi (by simp);done)
   |(intro i hi;exact PSubs.rfl)
   |exact PSub.int (by omega)
   |trace_state
 have hkl:(c.h.changed.reverse.take k).length=k:=by rw [List.length_take,List.length_reverse];omega
 have hti:((c.h.changed.length:Int) - 1 - (k:Int)).toNat=c.h.changed.length - 1 - k:=by omega
 conv=>whnf
 refine⟨fun h=>?_,fun h=>?_⟩<;>(try simp only [Q0,Q1,Q2,Q3,Q4,Q5,Q6,Q7,Q8,reduceCtorEq] at h)<;>(conv=>whnf)
 ·have hk2:k < c.h.changed.length:=by omega
  repeat (any_goals (first
   |(refine And.intro (by(try simp only [Int.toNat_natCast]);omega) ?_;conv=>whnf)
   |(refine And.intro (show(_:Bool)=true from by kernel_rfl) ?_;conv=>whnf)
   |(refine .inl ⟨wrap64 (by omega),?_⟩;conv=>whnf)))
  refine⟨k+1,[(514,133)],by omega,by omega,?_⟩
  rw [Z0qa hk2]
  simp only [hti]
  conv=>whnf
  (repeat' (first|exact PSub.rfl|exact rfl|exact PSubs.rfl|exact trivial|exact PSub.lit_sb rfl|refine And.intro ?_ ?_))
  all_goals first
   |(simp;done)
   |exact PSub.int (by omega)
   |(refine Z0qz (fun i hi=>by simp only [if_pos hi];exact PSubs.rfl) (by simp only [if_neg (Nat.lt_irrefl _),Nat.sub_self];exact PSubs.rfl))
   |trace_state
 have e:k=c.h.changed.length:=by omega
 subst e
 rw [show c.h.changed.reverse.take c.h.changed.length=c.h.changed.reverse from List.take_of_length_le (by rw [List.length_reverse];exact Nat.le_refl _)]
 clear hk hkl hti
 repeat (any_goals (first
  |(refine .inl ⟨wrap64 (by omega),?_⟩;conv=>whnf)))
 refine loop_k (ι:=Nat) [1,2,3] [1,2] (fun k=>k≤c.h.events.length) (fun k=>c.h.events.length - k) 0 (fun k=>[(9,.pv (vint ((c.h.events.length:Int) - 1 - k)))]) (fun k=>[(3,bakB c (.pv (roL 2 cSce c.sc.reverse)) (.pv (roL 15 cRul c.l.reverse)) (.pv (roL 7 cItem c.v.items.reverse)) (.pv (roL 5 cMem c.v.members.reverse)) (.pv (roL 3 cKey c.h.changed.reverse)) (.own 515) nilV),(515,rowL 3 cKey (c.h.events.reverse.take k))]) [] (Nat.zero_le _) ?_ (fun k hk=>?_)
 ·conv=>whnf
  (repeat' (first|exact PSub.rfl|exact rfl|exact PSubs.rfl|exact trivial|exact PSub.lit_sb rfl|refine And.intro ?_ ?_))
  all_goals first
   |(intro i hi;exact absurd hi (by simp);done)
   |(intro i hi;exact PSubs.rfl)
   |exact PSub.int (by omega)
   |trace_state
 have hkl:(c.h.events.reverse.take k).length=k:=by rw [List.length_take,List.length_reverse];omega
 have hti:((c.h.events.length:Int) - 1 - (k:Int)).toNat=c.h.events.length - 1 - k:=by omega
 conv=>whnf
 refine⟨fun h=>?_,fun h=>?_⟩<;>(try simp only [Q0,Q1,Q2,Q3,Q4,Q5,Q6,Q7,Q8,reduceCtorEq] at h)<;>(conv=>whnf)
 ·have hk2:k < c.h.events.length:=by omega
  repeat (any_goals (first
   |(refine And.intro (by(try simp only [Int.toNat_natCast]);omega) ?_;conv=>whnf)
   |(refine And.intro (show(_:Bool)=true from by kernel_rfl) ?_;conv=>whnf)
   |(refine .inl ⟨wrap64 (by omega),?_⟩;conv=>whnf)))
  refine⟨k+1,[(515,155)],by omega,by omega,?_⟩
  rw [Z0qa hk2]
  simp only [hti]
  conv=>whnf
  (repeat' (first|exact PSub.rfl|exact rfl|exact PSubs.rfl|exact trivial|exact PSub.lit_sb rfl|refine And.intro ?_ ?_))
  all_goals first
   |(simp;done)
   |exact PSub.int (by omega)
   |(refine Z0qz (fun i hi=>by simp only [if_pos hi];exact PSubs.rfl) (by simp only [if_neg (Nat.lt_irrefl _),Nat.sub_self];exact PSubs.rfl))
   |trace_state
 have e:k=c.h.events.length:=by omega
 subst e
 rw [show c.h.events.reverse.take c.h.events.length=c.h.events.reverse from List.take_of_length_le (by rw [List.length_reverse];exact Nat.le_refl _)]
 clear hk hkl hti
 repeat (any_goals (first
  |(refine .inl ⟨wrap64 (by omega),?_⟩;conv=>whnf)))
 refine loop_k (ι:=Nat) [1,2,3] [1,2] (fun k=>k≤c.h.held.length) (fun k=>c.h.held.length - k) 0 (fun k=>[(10,.pv (vint ((c.h.held.length:Int) - 1 - k)))]) (fun k=>[(3,bakB c (.pv (roL 2 cSce c.sc.reverse)) (.pv (roL 15 cRul c.l.reverse)) (.pv (roL 7 cItem c.v.items.reverse)) (.pv (roL 5 cMem c.v.members.reverse)) (.pv (roL 3 cKey c.h.changed.reverse)) (.pv (roL 3 cKey c.h.events.reverse)) (.own 516)),(516,rowL 1 cstr (c.h.held.reverse.take k))]) [] (Nat.zero_le _) ?_ (fun k hk=>?_)
 ·conv=>whnf
  (repeat' (first|exact PSub.rfl|exact rfl|exact PSubs.rfl|exact trivial|exact PSub.lit_sb rfl|refine And.intro ?_ ?_))
  all_goals first
   |(intro i hi;exact absurd hi (by simp);done)
   |(intro i hi;exact PSubs.rfl)
   |exact PSub.int (by omega)
   |trace_state
 have hkl:(c.h.held.reverse.take k).length=k:=by rw [List.length_take,List.length_reverse];omega
 have hti:((c.h.held.length:Int) - 1 - (k:Int)).toNat=c.h.held.length - 1 - k:=by omega
 conv=>whnf
 refine⟨fun h=>?_,fun h=>?_⟩<;>(try simp only [Q0,Q1,Q2,Q3,Q4,Q5,Q6,Q7,Q8,reduceCtorEq] at h)<;>(conv=>whnf)
 ·have hk2:k < c.h.held.length:=by omega
  repeat (any_goals (first
   |(refine And.intro (by(try simp only [Int.toNat_natCast]);omega) ?_;conv=>whnf)
   |(refine And.intro (show(_:Bool)=true from by kernel_rfl) ?_;conv=>whnf)
   |(refine .inl ⟨wrap64 (by omega),?_⟩;conv=>whnf)))
  refine⟨k+1,[(516,177)],by omega,by omega,?_⟩
  rw [Z0qa hk2]
  simp only [hti]
  conv=>whnf
  (repeat' (first|exact PSub.rfl|exact rfl|exact PSubs.rfl|exact trivial|exact PSub.lit_sb rfl|refine And.intro ?_ ?_))
  all_goals first
   |(simp;done)
   |exact PSub.int (by omega)
   |(refine Z0qz (fun i hi=>by simp only [if_pos hi];exact PSubs.rfl) (by simp only [if_neg (Nat.lt_irrefl _),Nat.sub_self];exact PSubs.rfl))
   |trace_state
 have e:k=c.h.held.length:=by omega
 subst e
 rw [show c.h.held.reverse.take c.h.held.length=c.h.held.reverse from List.take_of_length_le (by rw [List.length_reverse];exact Nat.le_refl _)]
 clear hk hkl hti
 conv=>whnf
 exact PSub.rfl
end Go.Abs
namespace Go.Abs
open Go.Proofs
set_option maxRecDepth 10000
theorem Z0to {α:Type} {l:List α} (h:smallL l):smallL l.reverse:=by
 show _≤_;rw [List.length_reverse];exact h
theorem Z0iu {l:List Scene} (h:∀ i,i < l.length→smallL (l.getD i default).items):∀ i,i < l.reverse.length→smallL (l.reverse.getD i default).items:=by
 intro i hi
 have hm:l.reverse.getD i default ∈ l:=by rw [Z0g2 _ _ hi];exact List.mem_reverse.1 (List.getElem_mem _)
 obtain⟨j,hj,e⟩:=List.getElem_of_mem hm
 rw [←e,←Z0g2 _ _ hj]
 exact h j hj
theorem Z01h (c:RuC) (hc:smallRuC c):AC Tryz.prog 5 [.pv (.agg (cRuC c))] [] (.pv (vbool true)) []:=by
 have r1:=Z05b c.s c.sc c.v c.h c.l hc.s hc.sc.1 hc.sc.2 hc.v hc.h
 have r2:=Z05b c.s c.sc.reverse (backV c.v) (backH c.h) c.l.reverse hc.s (Z0to hc.sc.1) (Z0iu hc.sc.2) ⟨Z0to hc.v.1,Z0to hc.v.2⟩ ⟨Z0to hc.h.c,Z0to hc.h.e,Z0to hc.h.h⟩
 have he:decide (runE c.s c.l.reverse=0)=decide (runE c.s c.l=0):=decide_eq_decide.2 runE_back
 have hu:unlikeB c=true→runR c.s c.sc.reverse (backV c.v) (backH c.h) c.l.reverse=runR c.s c.sc c.v c.h c.l:=fun h=>Z0ri (Z0ye h).2 (Z0ye h).1
 have r3:=Z04w (runR c.s c.sc c.v c.h c.l) (runR c.s c.sc.reverse (backV c.v) (backH c.h) c.l.reverse) Z0rk
 generalize runR c.s c.sc c.v c.h c.l=o at *
 generalize runR c.s c.sc.reverse (backV c.v) (backH c.h) c.l.reverse=o2 at *
 generalize runE c.s c.l=e at *
 generalize runE c.s c.l.reverse=e2 at *
 refine AC.of_awp (T:=T) T_ok hm Tryz.call5 Tryz.func5 rfl rfl rfl ?_
 conv=>whnf
 repeat (any_goals (first
  |(refine⟨fun(h:(_:Bool)=true)=>?_,fun(h:(_:Bool)=false)=>?_⟩<;>(try simp only [Q0,Q1,Q2,Q3,Q4,Q5,Q6,Q7,Q8,reduceCtorEq] at h)<;>(conv=>whnf))
  |(refine .inl ⟨_,Z01n c hc,?_⟩;conv=>whnf)
  |(refine .inl ⟨_,Z01q c hc,?_⟩;conv=>whnf)
  |(refine .inl ⟨_,Z01m c hc,?_⟩;conv=>whnf)
  |(refine .inl ⟨_,Z01o,?_⟩;conv=>whnf)
  |(refine .inl ⟨_,r1,?_⟩;conv=>whnf)
  |(refine .inl ⟨_,r2,?_⟩;conv=>whnf)
  |(refine .inl ⟨_,r3,?_⟩;conv=>whnf)))
 all_goals first
  |exact PSub.rfl
  |exact PSub.sb (decide_eq_true rfl)
  |exact PSub.lit_sb rfl
  |(exfalso;exact h (hu (by assumption)).symm)
  |(exfalso;exact h (decide_eq_decide.1 he).symm)
end Go.Abs
