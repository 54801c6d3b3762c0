/- YtipbekclhmbclaaGreatDoorX09: walks and contracts. -/
import Derived.Test.YtipbekclhmbclaaGreatDoorX08

set_option linter.unusedVariables false
set_option linter.unusedSimpArgs false
set_option linter.unusedSectionVars false

namespace Go.Abs
open Go.Proofs
set_option maxRecDepth 10000
set_option maxHeartbeats 2000000 in
theorem Z06g (l:List Write) (gb:List PV→Bool) (gi:List PV→Int) (lt:Write→Write→Bool) (hw:SWO lt) (hc:CmpS gi lt) (hl:l.length≤1048576) :
  AC Tryz.prog 55 [.own 900000,.pv (vint l.length),.clo cmpD false gb gi] [(900000,rowL 10 cWrite l)] (.pv (.tup [])) [(900000,rowL 10 cWrite (isortR lt l))]:=by
 have sym:=fun k a m b hk h1 h2 h3 h4 h5=>Z06j gb gi lt hw hc b k a m b (Nat.sub_le _ _) hk h1 h2 h3 h4 h5
 refine AC.of_awp_gen (T:=T) T_ok hm Tryz.call55 Tryz.func55 rfl rfl rfl rfl rfl rfl ?_
 conv=>whnf
 refine loop_k (ι:=Nat × List Write) [0,1,2,6] [] (fun x=>(x.2.length=l.length∧x.1≤l.length)∧DoneB lt x.2 20 x.1∧srtSeg lt x.2 0 l.length=srtSeg lt l 0 l.length) (fun x=>l.length - x.1) (0,l) (fun x=>[(7,.pv (vint x.1)),(8,.pv (.val (.int .i64 ((x.1:Int)+20))))]) (fun x=>[(900000,rowL 10 cWrite x.2)]) [] ⟨⟨rfl,Nat.zero_le _⟩,.zero,rfl⟩ ?_ (fun x hk=>?_)
 ·(repeat' (first|exact PSub.rfl|exact rfl|exact PSubs.rfl|exact trivial|exact PSub.lit_sb rfl|refine And.intro ?_ ?_))
  all_goals (intro q hq;exact PSubs.rfl)
 obtain⟨a,cur⟩:=x
 obtain⟨⟨hcl,han⟩,hd,hs⟩:=hk
 dsimp only at hcl han hd hs ⊢
 have c1:=fun(h:a+20≤l.length)=>Z06e cur a (a+20) gb gi lt hw hc (by omega) (by omega) (by omega)
 have c2:=Z06e cur a l.length gb gi lt hw hc (by omega) (by omega) (by omega)
 rw [show((a+20:Nat):Int)=(a:Int)+20 from by omega] at c1
 conv=>whnf
 refine⟨fun h=>?_,fun h=>?_⟩<;>(try simp only [Q0,Q1,Q2,Q3,Q4,Q5,Q6,Q7,Q8,reduceCtorEq] at h)<;>(conv=>whnf)
 ·repeat (any_goals (first
   |(refine .inr (.inr (.inr (.inr ⟨[(900000,900000)],[],_,_,_,c1 (by omega),rfl,?_⟩)));conv=>whnf)
   |(refine .inl ⟨wrap64 (by omega),?_⟩;conv=>whnf)))
  have hsl:=Z0uq (lt:=lt) (l:=cur) (a:=a) (b:=a+20) (by omega) (by omega)
  refine⟨(a+20,srtSeg lt cur a (a+20)),[],⟨⟨by dsimp only;omega,by dsimp only;omega⟩,Z0a3 hw (by omega) hd,by dsimp only;rw [Z0uo hw (Nat.zero_le _) (by omega) (by omega) (by omega)];exact hs⟩,by dsimp only;omega,?_⟩
  (repeat' (first|exact PSub.rfl|exact rfl|exact PSubs.rfl|exact trivial|exact PSub.lit_sb rfl|refine And.intro ?_ ?_))
  all_goals first|exact PSub.int (by dsimp only;omega)|(intro q hq;exact PSubs.rfl)
 have hr:=Z0a4 (n:=l.length) hw han (by omega) (show l.length < a+20 by omega) hd
 have hsl:=Z0uq (lt:=lt) (l:=cur) (a:=a) (b:=l.length) (by omega) (by omega)
 have hs1:srtSeg lt (srtSeg lt cur a l.length) 0 l.length=srtSeg lt l 0 l.length:=by
  rw [Z0uo hw (Nat.zero_le _) (by omega) (Nat.le_refl _) (by omega)];exact hs
 repeat (any_goals (first
  |(refine .inr (.inr (.inr (.inr ⟨[(900000,900000)],[],_,_,_,c2,rfl,?_⟩)));conv=>whnf)))
 clear c1 c2 hd hs
 generalize srtSeg lt cur a l.length=cur1 at *
 refine loop_k (ι:=Nat × List Write) [0,1,2] [] (fun x=>(x.2.length=l.length∧0 < x.1∧x.1≤2097152)∧RestB lt x.2 x.1 l.length 0∧srtSeg lt x.2 0 l.length=srtSeg lt l 0 l.length) (fun x=>l.length - x.1) (20,cur1) (fun x=>[(6,.pv (vint x.1))]) (fun x=>[(900000,rowL 10 cWrite x.2)]) [] ⟨⟨by dsimp only;omega,by dsimp only;omega,by dsimp only;omega⟩,hr,hs1⟩ ?_ (fun x hk=>?_)
 ·(repeat' (first|exact PSub.rfl|exact rfl|exact PSubs.rfl|exact trivial|exact PSub.lit_sb rfl|refine And.intro ?_ ?_))
  all_goals (intro q hq;exact PSubs.rfl)
 clear hsl hr hs1 hcl han
 obtain⟨B,cur⟩:=x
 obtain⟨⟨hcl,hB,hB2⟩,hr,hs⟩:=hk
 dsimp only at hcl hB hB2 hr hs ⊢
 conv=>whnf
 refine⟨fun h=>?_,fun h=>?_⟩<;>(try simp only [Q0,Q1,Q2,Q3,Q4,Q5,Q6,Q7,Q8,reduceCtorEq] at h)<;>(conv=>whnf)
 ·repeat (any_goals (first
   |(refine .inl ⟨wrap64 (by omega),?_⟩;conv=>whnf)))
  refine loop_k (ι:=Nat × List Write) [0,1,2,6] [] (fun x=>(x.2.length=l.length∧x.1≤l.length)∧DoneB lt x.2 (2 * B) x.1∧RestB lt x.2 B l.length x.1∧srtSeg lt x.2 0 l.length=srtSeg lt l 0 l.length) (fun x=>l.length - x.1) (0,cur) (fun x=>[(7,.pv (vint x.1)),(8,.pv (.val (.int .i64 ((x.1:Int)+2 * B))))]) (fun x=>[(900000,rowL 10 cWrite x.2)]) [] ⟨⟨hcl,Nat.zero_le _⟩,.zero,hr,hs⟩ ?_ (fun x hk=>?_)
  ·(repeat' (first|exact PSub.rfl|exact rfl|exact PSubs.rfl|exact trivial|exact PSub.lit_sb rfl|refine And.intro ?_ ?_))
   all_goals first|exact PSub.int (by dsimp only;omega)|(intro q hq;exact PSubs.rfl)
  clear hcl hr hs
  obtain⟨a,cur⟩:=x
  obtain⟨⟨hcl,han⟩,hd,hr,hs⟩:=hk
  dsimp only at hcl han hd hr hs ⊢
  conv=>whnf
  refine⟨fun h=>?_,fun h=>?_⟩<;>(try simp only [Q0,Q1,Q2,Q3,Q4,Q5,Q6,Q7,Q8,reduceCtorEq] at h)<;>(conv=>whnf)
  ·obtain⟨q1,q2,q3,q4⟩:=Z0a5 hw hB (by omega) (show a+2 * B≤l.length by omega) hd hr
   have c1:=sym cur a (a+B) (a+2 * B) (by omega) (by omega) (by omega) (by omega) q1 q2
   rw [show((a+2 * B:Nat):Int)=(a:Int)+2 * B from by omega,show((a+B:Nat):Int)=(a:Int)+B from by omega] at c1
   have hsl:=Z0uq (lt:=lt) (l:=cur) (a:=a) (b:=a+2 * B) (by omega) (by omega)
   repeat (any_goals (first
    |(refine .inr (.inr (.inr (.inr ⟨[(900000,900000)],[],_,_,_,c1,rfl,?_⟩)));conv=>whnf)
    |(refine .inl ⟨wrap64 (by omega),?_⟩;conv=>whnf)))
   refine⟨(a+2 * B,srtSeg lt cur a (a+2 * B)),[],⟨⟨by dsimp only;omega,by dsimp only;omega⟩,q3,q4,by dsimp only;rw [Z0uo hw (Nat.zero_le _) (by omega) (by omega) (by omega)];exact hs⟩,by dsimp only;omega,?_⟩
   (repeat' (first|exact PSub.rfl|exact rfl|exact PSubs.rfl|exact trivial|exact PSub.lit_sb rfl|refine And.intro ?_ ?_))
   all_goals first|exact PSub.int (by dsimp only;omega)|(intro q hq;exact PSubs.rfl)
  ·have hsl:=Z0uq (lt:=lt) (l:=cur) (a:=a) (b:=l.length) (by omega) (by omega)
   have c1:=fun(h:a+B < l.length)=>(sym cur a (a+B) l.length (by omega) (by omega) (by omega) (by omega) (Z0a1 hw (by omega) (show l.length < a+2 * B by omega) h hd hr).1 (Z0a1 hw (by omega) (show l.length < a+2 * B by omega) h hd hr).2.1)
   rw [show((a+B:Nat):Int)=(a:Int)+B from by omega] at c1
   repeat (any_goals (first
    |(refine⟨fun(h:(_:Bool)=true)=>?_,fun(h:(_:Bool)=false)=>?_⟩<;>(try simp only [Q0,Q1,Q2,Q3,Q4,Q5,Q6,Q7,Q8,reduceCtorEq] at h)<;>(conv=>whnf))
    |(refine .inr (.inr (.inr (.inr ⟨[(900000,900000)],[],_,_,_,c1 (by omega),rfl,?_⟩)));conv=>whnf)
    |(refine .inl ⟨wrap64 (by omega),?_⟩;conv=>whnf)))
   ·refine⟨(2 * B,srtSeg lt cur a l.length),[],⟨⟨by dsimp only;omega,by dsimp only;omega,by dsimp only;omega⟩,(Z0a1 hw (by omega) (show l.length < a+2 * B by omega) (by omega) hd hr).2.2,by dsimp only;rw [Z0uo hw (Nat.zero_le _) (by omega) (by omega) (by omega)];exact hs⟩,by dsimp only;omega,?_⟩
    (repeat' (first|exact PSub.rfl|exact rfl|exact PSubs.rfl|exact trivial|exact PSub.lit_sb rfl|refine And.intro ?_ ?_))
    all_goals first|exact PSub.int (by dsimp only;omega)|(intro q hq;exact PSubs.rfl)
   ·refine⟨(2 * B,cur),[],⟨⟨by dsimp only;omega,by dsimp only;omega,by dsimp only;omega⟩,Z0a2 (by omega) hd hr,hs⟩,by dsimp only;omega,?_⟩
    (repeat' (first|exact PSub.rfl|exact rfl|exact PSubs.rfl|exact trivial|exact PSub.lit_sb rfl|refine And.intro ?_ ?_))
    all_goals first|exact PSub.int (by dsimp only;omega)|(intro q hq;exact PSubs.rfl)
 ·have e:cur=isortR lt l:=Z0uw hw hcl (by rw [hcl];exact hs) (by rw [hcl];exact hr.whole (by omega))
  rw [←e]
  refine⟨rfl,[],?_⟩
  (repeat' (first|exact PSub.rfl|exact rfl|exact PSubs.rfl|exact trivial|exact PSub.lit_sb rfl|refine And.intro ?_ ?_))
  intro q hq;exact PSubs.rfl
theorem Z06b (l:List Write) (gb:List PV→Bool) (gi:List PV→Int) (lt:Write→Write→Bool) (hw:SWO lt) (hc:CmpS gi lt) (hl:l.length≤1048576) :
  AC Tryz.prog 29 [.own 900000,.clo cmpD false gb gi] [(900000,rowL 10 cWrite l)] (.pv (.tup [])) [(900000,rowL 10 cWrite (isortR lt l))]:=by
 refine AC.of_awp_gen (T:=T) T_ok hm Tryz.call29 Tryz.func29 rfl rfl rfl rfl rfl rfl ?_
 conv=>whnf
 repeat (any_goals (first
  |(refine .inr (.inr (.inr (.inr ⟨[(900000,900000)],[],_,_,_,Z06g l gb gi lt hw hc hl,rfl,?_⟩)));conv=>whnf)))
 refine⟨rfl,[],?_⟩
 (repeat' (first|exact PSub.rfl|exact rfl|exact PSubs.rfl|exact trivial|exact PSub.lit_sb rfl|refine And.intro ?_ ?_))
 intro q hq;exact PSubs.rfl
theorem Z06c (F:Nat) (hcall:∀ (vals:Array Value) (w:World),(callFunc F vals).run Tryz.prog w = .ok (.enter F vals) w) (gi:List PV→Int) (lt:Write→Write→Bool) (hw:SWO lt) (hc:CmpS gi lt)
  (hF:∀ x y:Write,AC Tryz.prog F [.pv (.agg (cWrite x)),.pv (.agg (cWrite y))] [] (.pv (vint (gi [.agg (cWrite x),.agg (cWrite y)]))) []) (l:List Write) (hl:l.length≤1048576) :
  AC Tryz.prog 29 [.own 900000,.fn F []] [(900000,rowL 10 cWrite l)] (.pv (.tup [])) [(900000,rowL 10 cWrite (isortR lt l))]:=by
 refine AC.with_fn_rows (caps:=[]) (pre:=[.own 900000]) (post:=[]) (Z06b l (fun _=>false) gi lt hw hc hl) hcall rfl rfl rfl rfl rfl ?_
 rintro xs ⟨x,y,rfl⟩
 exact hF x y
end Go.Abs
namespace Go.Abs
open Go.Proofs
structure TO {α:Type} (E:α→α→Prop) (lt:α→α→Bool):Prop where
 irr:∀ a,lt a a=false
 tr:∀ a b c,lt a b=true→lt b c=true→lt a c=true
 tot:∀ a b,¬ E a b→lt a b=true∨lt b a=true
theorem TO.asy {α:Type} {E:α→α→Prop} {lt:α→α→Bool} (h:TO E lt) {a b:α} (k:lt a b=true):lt b a=false:=by
 cases e:lt b a with
 |false=>rfl
 |true=>have:=h.tr a b a k e;rw [h.irr] at this;cases this
theorem TO.lex {α β:Type} [DecidableEq β] {E:α→α→Prop} {lt:α→α→Bool} {f:α→β} {lb:β→β→Bool} (hb:TO (fun x y=>x=y) lb) (h:TO E lt) :
  TO (fun a b=>f a=f b∧E a b) (fun a b=>if f a≠f b then lb (f a) (f b) else lt a b):=by
 refine⟨fun a=>?_,fun a b c h1 h2=>?_,fun a b h1=>?_⟩
 ·simp only [ne_eq,not_true,if_false];exact h.irr a
 ·by_cases e1:f a=f b
  ·rw [if_neg (by simpa using e1)] at h1
   by_cases e2:f b=f c
   ·rw [if_neg (by simpa using e2)] at h2
    rw [if_neg (by simpa using e1.trans e2)]
    exact h.tr _ _ _ h1 h2
   ·rw [if_pos e2] at h2
    rw [if_pos (by rw [e1];exact e2),e1];exact h2
  ·rw [if_pos e1] at h1
   by_cases e2:f b=f c
   ·rw [if_pos (by rw [←e2];exact e1),←e2];exact h1
   ·rw [if_pos e2] at h2
    have h3:=hb.tr _ _ _ h1 h2
    rw [if_pos (fun e=>by rw [e,hb.irr] at h3;cases h3)]
    exact h3
 ·by_cases e1:f a=f b
  ·rw [if_neg (by simpa using e1),if_neg (by simpa using e1.symm)]
   exact h.tot a b fun x=>h1 ⟨e1,x⟩
  ·rw [if_pos e1,if_pos (fun x=>e1 x.symm)]
   exact hb.tot _ _ e1
theorem TO.pull {α β:Type} {lb:β→β→Bool} (hb:TO (fun x y=>x=y) lb) (f:α→β):TO (fun a b=>f a=f b) (fun a b=>lb (f a) (f b)):=
 ⟨fun a=>hb.irr _,fun a b c=>hb.tr _ _ _,fun a b h=>hb.tot _ _ h⟩
theorem TO.imp {α:Type} {E F:α→α→Prop} {lt lu:α→α→Bool} (h:TO E lt) (hl:∀ a b,lt a b=lu a b) (hE:∀ a b,E a b→F a b):TO F lu:=
 ⟨fun a=>by rw [←hl];exact h.irr a,fun a b c h1 h2=>by rw [←hl] at *;exact h.tr _ _ _ h1 h2,fun a b h1=>by rw [←hl,←hl];exact h.tot a b fun x=>h1 (hE _ _ x)⟩
theorem TO.swo {α:Type} {lt:α→α→Bool} (h:TO (fun x y=>x=y) lt):SWO lt:=by
 refine⟨fun a b k=>h.asy k,fun a b c h1 h2=>?_⟩
 cases e:lt a c with
 |false=>rfl
 |true=>
  exfalso
  by_cases eb:a=b
  ·subst eb;rw [e] at h2;cases h2
  ·rcases h.tot _ _ eb with k|k
   ·rw [k] at h1;cases h1
   ·have:=h.tr _ _ _ k e;rw [this] at h2;cases h2
theorem to_int:TO (fun x y:Int=>x=y) (fun a b=>decide (a < b)):=
 ⟨fun a=>decide_eq_false (Int.lt_irrefl a),fun a b c h1 h2=>decide_eq_true (Int.lt_trans (of_decide_eq_true h1) (of_decide_eq_true h2)),fun a b h=>by
  rcases Int.lt_or_gt_of_ne h with k|k
  ·exact .inl (decide_eq_true k)
  ·exact .inr (decide_eq_true k)⟩
theorem Z0y6:TO (fun x y:Int=>x=y) (fun a b=>decide (b < a)):=
 ⟨fun a=>to_int.irr a,fun a b c h1 h2=>to_int.tr _ _ _ h2 h1,fun a b h=>(to_int.tot a b h).symm⟩
theorem to_str:TO (fun x y:ByteArray=>x=y) sLt:=⟨Z0s6,fun _ _ _=>Z0s8,fun _ _ h=>Z0s7 h⟩
theorem to_key:TO (fun x y:Key=>x=y) keyLess:=⟨Z0j1,fun _ _ _=>Z0j3,fun _ _ h=>Z0j2 h⟩
def vLess (a b:Val):Bool:=if a.kind≠b.kind then decide (a.kind < b.kind) else if a.n≠b.n then decide (a.n < b.n) else sLt a.s b.s
theorem to_val:TO (fun x y:Val=>x=y) vLess:=by
 refine TO.imp (TO.lex (f:=Val.kind) to_int (TO.lex (f:=Val.n) to_int (TO.pull to_str Val.s))) (fun a b=>?_) (fun a b h=>?_)
 ·unfold vLess;rfl
 ·obtain⟨a1,a2,a3⟩:=a
  obtain⟨b1,b2,b3⟩:=b
  obtain⟨h1,h2,h3⟩:=h
  simp only at h1 h2 h3
  subst h1;subst h2;subst h3;rfl
def befW (a b:Write):Bool:=
 if a.cause.kind≠b.cause.kind then decide (b.cause.kind < a.cause.kind) else if a.cause.prio≠b.cause.prio then decide (b.cause.prio < a.cause.prio)
 else if a.cause.name≠b.cause.name then sLt a.cause.name b.cause.name else if a.order≠b.order then decide (b.order < a.order)
 else if a.value≠b.value then vLess a.value b.value else keyLess a.key b.key
theorem to_bef:TO (fun x y:Write=>x=y) befW:=by
 refine TO.imp (TO.lex (f:=fun w:Write=>w.cause.kind) Z0y6 (TO.lex (f:=fun w:Write=>w.cause.prio) Z0y6 (TO.lex (f:=fun w:Write=>w.cause.name) to_str (TO.lex (f:=Write.order) Z0y6 (TO.lex (f:=Write.value) to_val (TO.pull to_key Write.key)))))) (fun a b=>?_) (fun a b h=>?_)
 ·unfold befW;rfl
 ·obtain⟨a1,a2,⟨a3,a4,a5⟩,a6⟩:=a
  obtain⟨b1,b2,⟨b3,b4,b5⟩,b6⟩:=b
  obtain⟨h1,h2,h3,h4,h5,h6⟩:=h
  simp only at h1 h2 h3 h4 h5 h6
  subst h1;subst h2;subst h3;subst h4;subst h5;subst h6;rfl
def ordW (a b:Write):Bool:=if a.key≠b.key then keyLess a.key b.key else befW a b
theorem to_ord:TO (fun x y:Write=>x=y) ordW:=by
 refine TO.imp (TO.lex (f:=Write.key) to_key to_bef) (fun a b=>?_) (fun a b h=>h.2)
 unfold ordW;rfl
theorem Z0xe:SWO ordW:=to_ord.swo
def eK (e:Evt):Key:=⟨e.dev,e.cluster,e.name⟩
structure Hap where
 changed:List Key
 events:List Key
 fr:Int
 to:Int
 mode:ByteArray
 start:Bool
 held:List ByteArray
 deriving Inhabited
def cHap (h:Hap):List PV:=[roL 3 cKey h.changed,roL 3 cKey h.events,vint h.fr,vint h.to,vstr h.mode,vbool h.start,roL 1 cstr h.held]
structure smallHp (h:Hap):Prop where
 c:smallL h.changed
 e:smallL h.events
 h:smallL h.held
def winB (fr to:Int):Bool:=decide (0≤fr∧fr≤to∧to≤1073741824)
def winF (fr to:Int):Int:=if winB fr to=true then max fr (to - 1440) else -1
def winT (fr to:Int):Int:=if winB fr to=true then to else -1
def normH (h:Hap):Hap:=⟨sortK h.changed,sortK h.events,winF h.fr h.to,winT h.fr h.to,h.mode,h.start,sortS h.held⟩
def dayA (mask w:Int):Bool:=decide (abits .and .i64 (mask.fdiv (2 ^ min w.toNat 64)) 1=1)
def minB (n mask m:Int):Bool:=decide (ofDay m=n) && dayA mask (weekday m)
def strB (fr to n mask:Int):Bool:=decide (0≤n∧n < 1440∧1≤mask∧mask≤127∧0≤fr) && anyN (to - fr).toNat fun i=>minB n mask (fr+1+i)
def trB (t:Trg) (rule:ByteArray) (h:Hap):Bool:=
 if t.kind=1 then decide (t.key ∈ h.changed) else if t.kind=2 then decide (eK t.event ∈ h.events) else if t.kind=3 then strB h.fr h.to t.n t.m
 else if t.kind=4 then !decide (h.mode=⟨#[]⟩) && (decide (t.name=⟨#[]⟩) || decide (t.name=h.mode)) else if t.kind=5 then h.start
 else if t.kind=6 then memS h.held rule else false
def anyB (r:Rul) (h:Hap):Bool:=anyN r.on.length fun i=>trB (r.on.getD i default) r.name (normH h)
structure Out where
 writes:List Write
 modes:List Write
 ran:List ByteArray
 notes:List ByteArray
 deriving Inhabited,DecidableEq
def cOut (o:Out):List PV:=[roL 10 cWrite o.writes,roL 10 cWrite o.modes,roL 1 cstr o.ran,roL 1 cstr o.notes]
def noOut:Out:=⟨[],[],[],[]⟩
def cauR (r:Rul):Cause:=⟨2,r.name,r.prio⟩
def limX (s:Sco) (v:Vw) (x:Stp):Val:=limitV ((findA s.home x.key).getD noAttr) (evlE v x.expr).1
def setW (s:Sco) (v:Vw) (x:Stp) (c:Cause) (i:Int):List Write:=
 if (findA s.home x.key).isSome=true∧(evlE v x.expr).2=true∧fitsE ((findA s.home x.key).getD noAttr) (limX s v x)=0 then [⟨x.key,limX s v x,c,i⟩] else []
def cluX (s:Sco) (x:Stp):Clu:=(partO s.home x.key.dev x.key.cluster).getD noClu
def keyX (dev:Int) (k:Clu) (j:Nat):Key:=⟨dev,k.name,(k.attrs.getD j default).name⟩
def befV (l:List Item) (dev:Int) (k:Clu) (j:Nat):Val:=match findI l (keyX dev k j) with
 |some y=>y.value
 |none=>zeroV (k.attrs.getD j default)
def bfrL (l:List Item) (dev:Int) (k:Clu) (n:Nat):List Val:=(List.range n).map (befV l dev k)
def parX (v:Vw) (x:Stp) (k:Clu):Val:=if (cmdOf k.commands x.name).param.kind≠0 then (evlE v x.expr).1 else noVal
def aftL (v:Vw) (x:Stp) (k:Clu):List Val:=applyL k x.name (parX v x k) (bfrL v.items x.key.dev k k.attrs.length)
def chgW (v:Vw) (x:Stp) (k:Clu) (c:Cause) (i:Int) (j:Nat):List Write:=
 if (aftL v x k).getD j default≠(bfrL v.items x.key.dev k k.attrs.length).getD j default then [⟨keyX x.key.dev k j,(aftL v x k).getD j default,c,i⟩] else []
def callW (s:Sco) (v:Vw) (x:Stp) (c:Cause) (i:Int):List Write:=(List.range (aftL v x (cluX s x)).length).flatMap (chgW v x (cluX s x) c i)
def atW (i:Int) (w:Write):Write:={ w with order:=i }
def sceW (s:Sco) (sc:List Scene) (x:Stp) (c:Cause) (i:Int):List Write:=
 if sceAt sc x.name < sc.length∧checkS s.home (findS sc x.name)=0 then (applyS (findS sc x.name) c (findS sc x.name).items.length).map (atW i) else []
def stpW (s:Sco) (sc:List Scene) (v:Vw) (c:Cause) (x:Stp) (i:Int):List Write:=
 if x.kind=1 then setW s v x c i else if x.kind=2 then callW s v x c i else if x.kind=3 then sceW s sc x c i else []
def stpM (c:Cause) (x:Stp) (i:Int):List Write:=if x.kind=4 then [⟨noKey,⟨4,0,x.name⟩,c,i⟩] else []
def stpN (c:Cause) (x:Stp):List ByteArray:=if x.kind=5 then [c.name ++ (⟨#[58,32]⟩:ByteArray) ++ x.name] else []
def rulW (s:Sco) (sc:List Scene) (v:Vw) (r:Rul) (n:Nat):List Write:=(List.range n).flatMap fun i=>stpW s sc v (cauR r) (r.steps.getD i default) i
def rulM (r:Rul) (n:Nat):List Write:=(List.range n).flatMap fun i=>stpM (cauR r) (r.steps.getD i default) i
def rulN (r:Rul) (n:Nat):List ByteArray:=(List.range n).flatMap fun i=>stpN (cauR r) (r.steps.getD i default)
def ranB (v:Vw) (h:Hap) (r:Rul):Bool:=anyB r h && truE v r.cond
def ranL (v:Vw) (h:Hap) (l:List Rul):List Rul:=l.filter (ranB v h)
def allW (s:Sco) (sc:List Scene) (v:Vw) (l:List Rul):List Write:=l.flatMap fun r=>rulW s sc v r r.steps.length
def allM (l:List Rul):List Write:=l.flatMap fun r=>rulM r r.steps.length
def allN (l:List Rul):List ByteArray:=l.flatMap fun r=>rulN r r.steps.length
def runO (s:Sco) (sc:List Scene) (v:Vw) (h:Hap) (l:List Rul):Out:=
 ⟨isortR ordW (allW s sc v (ranL v h l)),isortR ordW (allM (ranL v h l)),sortS ((ranL v h l).map Rul.name),sortS (allN (ranL v h l))⟩
def runE (s:Sco) (l:List Rul):Int:=if scoE s≠0 then scoE s else (rulesE s l).2
def runR (s:Sco) (sc:List Scene) (v:Vw) (h:Hap) (l:List Rul):Out:=if runE s l=0 then runO s sc v h l else noOut
def bestW:Write→List Write→Write
 |b,[]=>b
 |b,w :: l=>bestW (if befW w b=true then w else b) l
def modeT (l:List Write) (old:ByteArray):ByteArray:=match l with
 | []=>old
 |w :: l=>(bestW w l).value.s
end Go.Abs
namespace Go.Abs
open Go.Proofs
set_option maxRecDepth 10000
def cmpI (a b:Int):Int:=if a < b then -1 else if b < a then 1 else 0
def cmpT (a b:ByteArray):Int:=if sLt a b=true then -1 else if a=b then 0 else 1
def sidI (p q:Bool):Int:=if p=true then -1 else if q=true then 1 else 0
def decL:List Int→Int
 | []=>0
 |x :: l=>if x≠0 then x else decL l
def rnkL (a b:Write):List Int:=[cmpI b.cause.kind a.cause.kind,cmpI b.cause.prio a.cause.prio,cmpT a.cause.name b.cause.name,cmpI b.order a.order,sidI (vLess a.value b.value) (vLess b.value a.value),sidI (keyLess a.key b.key) (keyLess b.key a.key)]
theorem Z0c2 (x:Int) (l:List Int):decide (decL (x :: l) < 0)=if x≠0 then decide (x < 0) else decide (decL l < 0):=by
 rw [decL];split<;>rfl
theorem Z0bf {a b:Int}:cmpI a b≠0↔a≠b:=by unfold cmpI;(repeat' split)<;>omega
theorem Z0be {a b:Int}:decide (cmpI a b < 0)=decide (a < b):=by unfold cmpI;rw [decide_eq_decide];(repeat' split)<;>omega
theorem Z0bi {a b:ByteArray}:cmpT a b≠0↔a≠b:=by
 unfold cmpT
 by_cases e:a=b
 ·subst e;rw [if_neg (by rw [Z0s6];decide),if_pos rfl];simp
 ·rw [if_neg (c:=a=b) e]
  split<;>simp [e]
theorem Z0bh {a b:ByteArray}:decide (cmpT a b < 0)=sLt a b:=by
 unfold cmpT
 cases h:sLt a b with
 |true=>simp
 |false=>
  simp only [Bool.false_eq_true,if_false]
  split<;>rfl
theorem sid_ne {α:Type} {lt:α→α→Bool} (h:TO (fun x y=>x=y) lt) {a b:α}:sidI (lt a b) (lt b a)≠0↔a≠b:=by
 unfold sidI
 by_cases e:a=b
 ·subst e;rw [h.irr];simp
 ·rcases h.tot _ _ e with k|k<;>rw [k]<;>simp [e]
  split<;>decide
theorem sid_lt {α:Type} {lt:α→α→Bool} {a b:α}:decide (sidI (lt a b) (lt b a) < 0)=lt a b:=by
 unfold sidI
 cases h:lt a b with
 |true=>simp
 |false=>
  simp only [Bool.false_eq_true,if_false]
  split<;>rfl
theorem Z0qe (a b:Write):decide (decL (rnkL a b) < 0)=befW a b:=by
 unfold rnkL befW
 rw [Z0c2,Z0c2,Z0c2,Z0c2,Z0c2,Z0c2]
 simp only [Z0bf,Z0be,Z0bi,Z0bh,sid_ne to_val,sid_ne to_key,sid_lt]
 have e1:(b.cause.kind≠a.cause.kind)=(a.cause.kind≠b.cause.kind):=propext ⟨fun h e=>h e.symm,fun h e=>h e.symm⟩
 have e2:(b.cause.prio≠a.cause.prio)=(a.cause.prio≠b.cause.prio):=propext ⟨fun h e=>h e.symm,fun h e=>h e.symm⟩
 have e3:(b.order≠a.order)=(a.order≠b.order):=propext ⟨fun h e=>h e.symm,fun h e=>h e.symm⟩
 simp only [e1,e2,e3]
 by_cases ek:a.key=b.key
 ·rw [ek,Z0j1]
  simp [decL]
 ·simp [ek]
theorem Z07e (a b:Val):AC Tryz.prog 127 [.pv (.agg (cVal a)),.pv (.agg (cVal b))] [] (.pv (vbool (vLess a b))) []:=by
 refine AC.of_awp (T:=T) T_ok hm Tryz.call127 Tryz.func127 rfl rfl rfl ?_
 conv=>whnf
 repeat (any_goals (first
  |(refine⟨fun(h:(_:Bool)=true)=>?_,fun(h:(_:Bool)=false)=>?_⟩<;>(try simp only [Q0,Q1,Q2,Q3,Q4,Q5,Q6,Q7,Q8,reduceCtorEq] at h)<;>(conv=>whnf))))
 all_goals (refine PSub.sb ?_;unfold vLess;simp [*];try rfl)
theorem Z055 (a b:Int):AC Tryz.prog 124 [.pv (vint a),.pv (vint b)] [] (.pv (vint (cmpI a b))) []:=by
 refine AC.of_awp (T:=T) T_ok hm Tryz.call124 Tryz.func124 rfl rfl rfl ?_
 conv=>whnf
 repeat (any_goals (first
  |(refine⟨fun(h:(_:Bool)=true)=>?_,fun(h:(_:Bool)=false)=>?_⟩<;>(try simp only [Q0,Q1,Q2,Q3,Q4,Q5,Q6,Q7,Q8,reduceCtorEq] at h)<;>(conv=>whnf))))
 all_goals (refine PSub.int ?_;unfold cmpI;(repeat' split)<;>first|rfl|omega)
theorem Z056 (a b:ByteArray):AC Tryz.prog 125 [.pv (vstr a),.pv (vstr b)] [] (.pv (vint (cmpT a b))) []:=by
 refine AC.of_awp (T:=T) T_ok hm Tryz.call125 Tryz.func125 rfl rfl rfl ?_
 conv=>whnf
 repeat (any_goals (first
  |(refine⟨fun(h:(_:Bool)=true)=>?_,fun(h:(_:Bool)=false)=>?_⟩<;>(try simp only [Q0,Q1,Q2,Q3,Q4,Q5,Q6,Q7,Q8,reduceCtorEq] at h)<;>(conv=>whnf))))
 ·refine PSub.int ?_
  unfold cmpT
  rw [if_pos (show sLt a b=true from h)]
 ·rename_i h1
  refine PSub.int ?_
  unfold cmpT
  rw [if_neg (by show ¬ Op.bytesLess _ _=true;simp_all),if_neg (by simp_all)]
 ·rename_i h1
  refine PSub.int ?_
  unfold cmpT
  rw [if_neg (by show ¬ Op.bytesLess _ _=true;simp_all),if_pos (by simp_all)]
theorem Z059 (p q:Bool):AC Tryz.prog 126 [.pv (vbool p),.pv (vbool q)] [] (.pv (vint (sidI p q))) []:=by
 refine AC.of_awp (T:=T) T_ok hm Tryz.call126 Tryz.func126 rfl rfl rfl ?_
 conv=>whnf
 repeat (any_goals (first
  |(refine⟨fun(h:(_:Bool)=true)=>?_,fun(h:(_:Bool)=false)=>?_⟩<;>(try simp only [Q0,Q1,Q2,Q3,Q4,Q5,Q6,Q7,Q8,reduceCtorEq] at h)<;>(conv=>whnf))))
 all_goals (refine PSub.int ?_;unfold sidI;simp [*])
theorem Z0c0 {l:List Int} {k:Nat} (hk:k < l.length) (h0:l.getD k default≠0) (hb:∀ j,j < k→l.getD j default=0):decL l=l.getD k default:=by
 induction l generalizing k with
 |nil=>exact absurd hk (by simp)
 |cons x l ih=>
  cases k with
  |zero=>
   have h1:x≠0:=h0
   rw [decL,if_pos h1];rfl
  |succ k=>
   have hx:x=0:=hb 0 (by omega)
   rw [decL,if_neg (by simpa using hx)]
   exact ih (by simpa using hk) h0 fun j hj=>hb (j+1) (by omega)
theorem Z0c1 {l:List Int} (hb:∀ j,j < l.length→l.getD j default=0):decL l=0:=by
 induction l with
 |nil=>rfl
 |cons x l ih=>
  have hx:x=0:=hb 0 (by simp)
  rw [decL,if_neg (by simpa using hx)]
  exact ih fun j hj=>hb (j+1) (by simp;omega)
theorem Z057 (l:List Int) (hl:smallL l):AC Tryz.prog 123 [.pv (roL 1 cint l)] [] (.pv (vint (decL l))) []:=by
 have hl:l.length≤1048576:=hl
 refine AC.of_awp (T:=T) T_ok hm Tryz.call123 Tryz.func123 rfl rfl rfl ?_
 conv=>whnf
 refine loop_k (ι:=Nat) [5,6] [] (fun k=>k≤l.length∧(∀ j,j < k→l.getD j default=0)) (fun k=>l.length - k) 0 (fun k=>[(7,.pv (vint k))]) (fun _=>[]) [] ⟨Nat.zero_le _,fun j h=>absurd h (by omega)⟩ ?_ (fun k hk=>?_)
 ·(repeat' (first|exact PSub.rfl|exact rfl|exact PSubs.rfl|exact trivial|exact PSub.lit_sb rfl|refine And.intro ?_ ?_))
 obtain⟨hkn,hinv⟩:=hk
 conv=>whnf
 repeat (any_goals (first
  |(refine⟨fun(h:(_:Bool)=true)=>?_,fun(h:(_:Bool)=false)=>?_⟩<;>(try simp only [Q0,Q1,Q2,Q3,Q4,Q5,Q6,Q7,Q8,reduceCtorEq] at h)<;>(conv=>whnf))
  |(refine And.intro (by(try simp only [Int.toNat_natCast]);omega) ?_;conv=>whnf)
  |(refine .inl ⟨wrap64 (by omega),?_⟩;conv=>whnf)))
 ·exact PSub.int (Z0c0 (by omega) h hinv).symm
 ·refine⟨k+1,[],⟨by omega,?_⟩,by first|omega|(dsimp only;omega),?_⟩
  rotate_left
  ·(repeat' (first|exact PSub.rfl|exact rfl|exact PSubs.rfl|exact trivial|exact PSub.lit_sb rfl|refine And.intro ?_ ?_))
  intro j hj
  by_cases e:j=k
  ·subst e;exact h
  ·exact hinv j (by omega)
 ·exact PSub.int (Z0c1 fun j hj=>hinv j (by omega)).symm
theorem Z058 (a b:Write):AC Tryz.prog 70 [.pv (.agg (cWrite a)),.pv (.agg (cWrite b))] [] (.pv (vint (decL (rnkL a b)))) []:=by
 have c:=Z057 (rnkL a b) (sl rfl)
 refine AC.of_awp_ice (T:=T) T_ok hm Tryz.call70 Tryz.func70 rfl rfl rfl ?_
 conv=>whnf
 repeat (any_goals (first
  |(refine .inl ⟨_,Z055 b.cause.kind a.cause.kind,?_⟩;conv=>whnf)
  |(refine .inl ⟨_,Z055 b.cause.prio a.cause.prio,?_⟩;conv=>whnf)
  |(refine .inl ⟨_,Z056 a.cause.name b.cause.name,?_⟩;conv=>whnf)
  |(refine .inl ⟨_,Z055 b.order a.order,?_⟩;conv=>whnf)
  |(refine .inl ⟨_,Z07e a.value b.value,?_⟩;conv=>whnf)
  |(refine .inl ⟨_,Z07e b.value a.value,?_⟩;conv=>whnf)
  |(refine .inl ⟨_,Z059 (vLess a.value b.value) (vLess b.value a.value),?_⟩;conv=>whnf)
  |(refine .inl ⟨_,Z00n a.key b.key,?_⟩;conv=>whnf)
  |(refine .inl ⟨_,Z00n b.key a.key,?_⟩;conv=>whnf)
  |(refine .inl ⟨_,Z059 (keyLess a.key b.key) (keyLess b.key a.key),?_⟩;conv=>whnf)
  |(refine And.intro (show(_:Bool)=true from by kernel_rfl) ?_;conv=>whnf)))
 refine .inl ⟨_,AC.sub1 (c) (by repeat' (first|exact PSub.rfl|exact PSub.nil_ro _ _|exact PSub.lit_sb rfl|exact trivial|exact Z085|refine PSub.agg ?_|refine PSub.ro rfl ?_|refine Z084 ?_ ?_|refine And.intro ?_ ?_)),?_⟩
 conv=>whnf
 repeat (any_goals (first
  |(refine And.intro (show(_:Bool)=true from by kernel_rfl) ?_;conv=>whnf)))
 all_goals first|exact .rfl|trace_state
theorem Z054 (a b:Write):AC Tryz.prog 40 [.pv (.agg (cWrite a)),.pv (.agg (cWrite b))] [] (.pv (vbool (befW a b))) []:=by
 rw [←Z0qe]
 refine AC.of_awp (T:=T) T_ok hm Tryz.call40 Tryz.func40 rfl rfl rfl ?_
 conv=>whnf
 repeat (any_goals (first
  |(refine .inl ⟨_,Z058 a b,?_⟩;conv=>whnf)))
 exact .rfl
theorem Z0yq (a b:Val):(decide (a.kind=b.kind) && (decide (a.n=b.n) && (decide (a.s=b.s) && true)))=decide (a=b):=by
 obtain⟨a1,a2,a3⟩:=a
 obtain⟨b1,b2,b3⟩:=b
 rw [Bool.eq_iff_iff];simp
def cmpW (a b:Write):Int:=if keyLess a.key b.key=true then -1 else if keyLess b.key a.key=true then 1 else if befW a b=true then -1 else if befW b a=true then 1 else 0
theorem Z0bj (a b:Write):decide (cmpW a b < 0)=ordW a b:=by
 unfold cmpW ordW
 by_cases e:a.key=b.key
 ·have e1:keyLess a.key b.key=false:=by rw [e];exact Z0j1 _
  have e2:keyLess b.key a.key=false:=by rw [e];exact Z0j1 _
  rw [if_neg (by rw [e1];decide),if_neg (by rw [e2];decide),if_neg (c:=a.key≠b.key) (fun x=>x e)]
  cases h:befW a b with
  |true=>rfl
  |false=>
   rw [if_neg (by decide)]
   split<;>rfl
 ·rw [if_pos e]
  cases h:keyLess a.key b.key with
  |true=>rfl
  |false=>
   have h2:=(Z0j2 e).resolve_left (by rw [h];decide)
   rw [if_neg (by decide),if_pos h2];rfl
theorem Z05g (a b:Write):AC Tryz.prog 30 [.pv (.agg (cWrite a)),.pv (.agg (cWrite b))] [] (.pv (vint (cmpW a b))) []:=by
 refine AC.of_awp (T:=T) T_ok hm Tryz.call30 Tryz.func30 rfl rfl rfl ?_
 conv=>whnf
 repeat (any_goals (first
  |(refine⟨fun(h:(_:Bool)=true)=>?_,fun(h:(_:Bool)=false)=>?_⟩<;>(try simp only [Q0,Q1,Q2,Q3,Q4,Q5,Q6,Q7,Q8,reduceCtorEq] at h)<;>(conv=>whnf))
  |(refine .inl ⟨_,Z00n a.key b.key,?_⟩;conv=>whnf)
  |(refine .inl ⟨_,Z00n b.key a.key,?_⟩;conv=>whnf)
  |(refine .inl ⟨_,Z054 a b,?_⟩;conv=>whnf)
  |(refine .inl ⟨_,Z054 b a,?_⟩;conv=>whnf)))
 all_goals (refine PSub.int ?_;unfold cmpW;simp [*])
theorem Z04x (a b:List Write) (ha:a.length≤4194304):AC Tryz.prog 38 [.pv (roL 10 cWrite a),.pv (roL 10 cWrite b)] [] (.pv (vbool (decide (a=b)))) []:=by
 refine AC.of_awp (T:=T) T_ok hm Tryz.call38 Tryz.func38 rfl rfl rfl ?_
 conv=>whnf
 refine⟨fun h=>?_,fun h=>?_⟩<;>(try simp only [Q0,Q1,Q2,Q3,Q4,Q5,Q6,Q7,Q8,reduceCtorEq] at h)<;>(conv=>whnf)
 ·exact PSub.lit_sb (by symm;simp only [decide_eq_false_iff_not];intro e;exact h (by rw [e]))
 have hl:=h
 refine loop_k (ι:=Nat) [0,1] [] (fun k=>k≤a.length∧(∀ j,j < k→a.getD j default=b.getD j default)) (fun k=>a.length - k) 0 (fun k=>[(5,.pv (vint k))]) (fun _=>[]) [] ⟨Nat.zero_le _,fun j h=>absurd h (by omega)⟩ ?_ (fun k hk=>?_)
 ·(repeat' (first|exact PSub.rfl|exact rfl|exact PSubs.rfl|exact trivial|exact PSub.lit_sb rfl|refine And.intro ?_ ?_))
 obtain⟨hkn,hinv⟩:=hk
 conv=>whnf
 repeat (any_goals (first
  |(refine⟨fun(h:(_:Bool)=true)=>?_,fun(h:(_:Bool)=false)=>?_⟩<;>(try simp only [Q0,Q1,Q2,Q3,Q4,Q5,Q6,Q7,Q8,reduceCtorEq] at h)<;>(conv=>whnf))
  |(refine And.intro (by(try simp only [Int.toNat_natCast]);omega) ?_;conv=>whnf)
  |(refine And.intro (show(_:Bool)=true from by kernel_rfl) ?_;conv=>whnf)
  |(refine .inl ⟨wrap64 (by omega),?_⟩;conv=>whnf)))
 all_goals try rw [Z0ze] at h
 all_goals try simp only [decide_eq_true_eq,decide_eq_false_iff_not] at h
 ·exact PSub.lit_sb (by symm;simp only [decide_eq_false_iff_not];intro e;exact h (by rw [e]))
 ·refine⟨k+1,[],⟨by omega,?_⟩,by first|omega|(dsimp only;omega),?_⟩
  rotate_left
  ·(repeat' (first|exact PSub.rfl|exact rfl|exact PSubs.rfl|exact trivial|exact PSub.lit_sb rfl|refine And.intro ?_ ?_))
  intro j hj
  by_cases e:j=k
  ·subst e;first|exact h|simpa [-List.getD_eq_getElem?_getD] using h|simp_all [-List.getD_eq_getElem?_getD]
  ·exact hinv j (by omega)
 ·exact PSub.lit_sb (by symm;simp only [decide_eq_true_eq];exact Z0k7 (by omega) fun i hi=>hinv i (by omega))
theorem Z0nz (a b:Out):decide (a=b)=(decide (a.writes=b.writes) && (decide (a.modes=b.modes) && (decide (a.ran=b.ran) && decide (a.notes=b.notes)))):=by
 obtain⟨a1,a2,a3,a4⟩:=a
 obtain⟨b1,b2,b3,b4⟩:=b
 rw [Bool.eq_iff_iff];simp
structure shortO (o:Out):Prop where
 w:o.writes.length≤4194304
 m:o.modes.length≤4194304
 r:o.ran.length≤1048576
 n:o.notes.length≤1048576
theorem Z04w (a b:Out) (ha:shortO a):AC Tryz.prog 13 [.pv (.agg (cOut a)),.pv (.agg (cOut b))] [] (.pv (vbool (decide (a=b)))) []:=by
 refine AC.of_awp (T:=T) T_ok hm Tryz.call13 Tryz.func13 rfl rfl rfl ?_
 conv=>whnf
 repeat (any_goals (first
  |(refine⟨fun(h:(_:Bool)=true)=>?_,fun(h:(_:Bool)=false)=>?_⟩<;>(try simp only [Q0,Q1,Q2,Q3,Q4,Q5,Q6,Q7,Q8,reduceCtorEq] at h)<;>(conv=>whnf))
  |(refine .inl ⟨_,Z04x a.writes b.writes ha.w,?_⟩;conv=>whnf)
  |(refine .inl ⟨_,Z04x a.modes b.modes ha.m,?_⟩;conv=>whnf)
  |(refine .inl ⟨_,Z02j a.ran b.ran ha.r,?_⟩;conv=>whnf)
  |(refine .inl ⟨_,Z02j a.notes b.notes ha.n,?_⟩;conv=>whnf)))
 all_goals rw [Z0nz]
 all_goals first
  |(refine PSub.sb ?_;simp_all;done)
  |(refine PSub.lit_sb ?_;simp_all;done)
  |trace_state
end Go.Abs
namespace Go.Abs
open Go.Proofs
set_option maxRecDepth 10000
theorem Z0p0 {m:List Key} {x:Key} {p:Nat} (hA:Asc m) (hp:p≤m.length) (h1:∀ j,j < p→keyLess (m.getD j default) x=true) (h2:p < m.length→keyLess (m.getD p default) x=false) (h3:p=m.length∨m.getD p default≠x):insL m p x=putK m x:=by
 have hq:p=posK m x:=Z0of hp h1 h2
 rw [←Z0oq (k:=x) hA,←hq,if_pos h3]
theorem Z0p3 {m:List Key} {x:Key} {p:Nat} (hA:Asc m) (hp:p < m.length) (h1:∀ j,j < p→keyLess (m.getD j default) x=true) (h3:m.getD p default=x):putK m x=m:=by
 have hq:p=posK m x:=Z0of (by omega) h1 (fun _=>by rw [h3];exact Z0j1 x)
 rw [←Z0oq (k:=x) hA,←hq,if_neg (by rintro (h|h);omega;exact h h3)]
theorem Z0ow {m:List ByteArray} {x:ByteArray} {p:Nat} (hA:AscS m) (hp:p≤m.length) (h1:∀ j,j < p→sLt (m.getD j default) x=true) (h2:p < m.length→sLt (m.getD p default) x=false) (h3:p=m.length∨m.getD p default≠x):insL m p x=putS m x:=by
 have h4:∀ i,p≤i→i < m.length→sLt x (m.getD i default)=true:=fun i hi hl=>by
  have a3:sLt x (m.getD p default)=true:=(Z0s7 (h3.resolve_left (by omega))).resolve_left (by rw [h2 (by omega)];decide)
  by_cases e:i=p
  ·subst e;exact a3
  ·refine Z0s8 a3 ?_
   rw [Z0g2 _ _ hl,Z0g2 _ _ (show p < m.length by omega)]
   exact List.pairwise_iff_getElem.1 hA p i (by omega) hl (by omega)
 refine Z0hx hA (fun hx=>?_) hp h4 ?_
 ·obtain⟨i,hi,e⟩:=List.getElem_of_mem hx
  by_cases hip:i < p
  ·have:=h1 i hip
   rw [Z0g2 _ _ hi,e,Z0s6] at this;cases this
  ·have:=h4 i (by omega) hi
   rw [Z0g2 _ _ hi,e,Z0s6] at this;cases this
 ·by_cases e:p=0
  ·exact .inl e
  ·exact .inr (Z0s4 (h1 (p - 1) (by omega)))
theorem Z0oy {m:List ByteArray} {x:ByteArray} {p:Nat} (hA:AscS m) (hp:p < m.length) (h3:m.getD p default=x):putS m x=m:=by
 refine Z094 (Z095 hA) hA fun y=>?_
 rw [mem_putS]
 constructor
 ·rintro (h|h)
  ·rw [h,←h3,Z0g2 _ _ hp];exact List.getElem_mem hp
  ·exact h
 ·exact .inr
theorem Z0tv {l:List Key} {k:Nat} (hk:k < l.length):sortK (l.take (k+1))=putK (sortK (l.take k)) (l.getD k default):=by rw [Z0xx hk,Z0tu]
theorem Z0u3 {l:List ByteArray} {k:Nat} (hk:k < l.length):sortS (l.take (k+1))=putS (sortS (l.take k)) (l.getD k default):=by rw [Z0xx hk,Z0u2]
def twoK:List PV→Prop:=fun xs=>∃ x y:Key,xs = [.agg (cKey x),.agg (cKey y)]
noncomputable def lessG:List PV→Bool:=fun xs=>match xs with
 | [.agg [.val (.int _ a),.val (.string b),.val (.string c)],.agg [.val (.int _ d),.val (.string e),.val (.string f)]]=>keyLess ⟨a,b,c⟩ ⟨d,e,f⟩
 |_=>false
def twoS:List PV→Prop:=fun xs=>∃ x y:ByteArray,xs = [vstr x,vstr y]
noncomputable def lessGS:List PV→Bool:=fun xs=>match xs with
 | [.val (.string a),.val (.string b)]=>sLt a b
 |_=>false
set_option maxHeartbeats 1000000 in
theorem Z06s (gb:List PV→Bool) (gi:List PV→Int) (hgb:∀ a b:Key,gb [.agg (cKey a),.agg (cKey b)]=keyLess a b) (l:List Key) (hl:smallL l) :
  AC Tryz.prog 90 [.pv (roL 3 cKey l),.clo twoK true gb gi] [] (.pv (roL 3 cKey (sortK l))) []:=by
 have hl:l.length≤1048576:=hl
 have INS:=@Z069
 refine AC.of_awp (T:=T) T_ok hm Tryz.call90 Tryz.func90 rfl rfl rfl ?_
 conv=>whnf
 refine loop_k (ι:=Nat) [1,9,10] [] (fun k=>k≤l.length∧True) (fun k=>l.length - k) 0 (fun k=>[(5,.own 500),(11,.pv (vint k))]) (fun k=>[(500,rowL 3 cKey (sortK (l.take k)))]) [] ⟨Nat.zero_le _,trivial⟩ ?_ (fun k hk=>?_)
 ·(repeat' (first|exact PSub.rfl|exact rfl|exact PSubs.rfl|exact trivial|exact PSub.lit_sb rfl|refine And.intro ?_ ?_));all_goals ((intro i hi;exact absurd hi (by simp [sortK])))
 obtain⟨hkn,hinv⟩:=hk
 conv=>whnf
 have hlen:(sortK (l.take k)).length≤l.length:=Nat.le_trans (Z0ts _) (by rw [List.length_take];omega)
 have hA:Asc (sortK (l.take k)):=Z09a _
 refine⟨fun h=>?_,fun h=>?_⟩<;>(try simp only [Q0,Q1,Q2,Q3,Q4,Q5,Q6,Q7,Q8,reduceCtorEq] at h)<;>(conv=>whnf)
 ·have hk:k < l.length:=by omega
  have hs:=Z0tv hk
  repeat (any_goals (first
   |(refine And.intro (by(try simp only [Int.toNat_natCast]);omega) ?_;conv=>whnf)))
  obtain⟨x,hx⟩:∃ x,x=l.getD k default:=⟨_,rfl⟩
  rw [←hx] at hs
  generalize sortK (l.take k)=m at *
  refine loop_k (ι:=Nat) [1,5,7,9,10,11] [7,500] (fun p=>p≤m.length∧∀ j,j < p→keyLess (m.getD j default) x=true) (fun p=>m.length - p) 0 (fun p=>[(8,.pv (vint p))]) (fun _=>[]) [] ⟨Nat.zero_le _,fun j h=>absurd h (by omega)⟩ ?_ (fun p hp=>?_)
  ·(repeat' (first|exact PSub.rfl|exact rfl|exact PSubs.rfl|exact trivial|exact PSub.lit_sb rfl|refine And.intro ?_ ?_))
   all_goals (intro i hi;exact PSubs.rfl)
  obtain⟨hpn,hinv⟩:=hp
  conv=>whnf
  repeat (any_goals (first
   |(refine⟨fun(h:(_:Bool)=true)=>?_,fun(h:(_:Bool)=false)=>?_⟩<;>(try simp only [Q0,Q1,Q2,Q3,Q4,Q5,Q6,Q7,Q8,reduceCtorEq] at h)<;>(conv=>whnf))
   |(refine⟨⟨_,_,rfl⟩,?_⟩;conv=>whnf)
   |(refine .inr (.inr (.inr (.inr ⟨[(0,500),(2,45)],[(1,46)],_,_,_,(INS (l:=m) (i:=p) (x:=l.getD k default) hpn (by omega) (by exact⟨PSub.rfl,PSub.rfl,PSub.rfl,trivial⟩)),rfl,?_⟩)));conv=>whnf)
   |(refine And.intro (by(try simp only [Int.toNat_natCast]);omega) ?_;conv=>whnf)
   |(refine And.intro (show(_:Bool)=true from by kernel_rfl) ?_;conv=>whnf)
   |(refine .inl ⟨wrap64 (by omega),?_⟩;conv=>whnf)))
  ·refine⟨p+1,[],⟨by omega,fun j hj=>?_⟩,by omega,?_⟩
   ·by_cases e:j=p
    ·subst e;rw [hx,←hgb];exact h
    ·exact hinv j (by omega)
   ·(repeat' (first|exact PSub.rfl|exact rfl|exact PSubs.rfl|exact trivial|exact PSub.lit_sb rfl|refine And.intro ?_ ?_))
    all_goals (intro i hi;exact PSubs.rfl)
  ·exfalso;omega
  ·rename_i h1 h2
   have h3:=of_decide_eq_false ((key_eq _ _).symm.trans h)
   have h4:keyLess (m.getD p default) x=false:=by rw [hx,←hgb];assumption
   have hput:=Z0p0 hA hpn hinv (fun _=>h4) (.inr (by rw [hx];exact h3))
   refine⟨k+1,[(500,46)],⟨by omega,trivial⟩,by omega,?_⟩
   rw [hs,←hput,hx]
   (repeat' (first|exact PSub.rfl|exact rfl|exact PSubs.rfl|exact trivial|exact PSub.lit_sb rfl|refine And.intro ?_ ?_))
   all_goals (intro i hi;exact PSubs.rfl)
  ·have h3:=of_decide_eq_true ((key_eq _ _).symm.trans h)
   have hput:=Z0p3 (p:=p) hA (by omega) hinv (by rw [hx];exact h3)
   refine⟨k+1,[],⟨by omega,trivial⟩,by omega,?_⟩
   rw [hs,hput]
   (repeat' (first|exact PSub.rfl|exact rfl|exact PSubs.rfl|exact trivial|exact PSub.lit_sb rfl|refine And.intro ?_ ?_))
   all_goals (intro i hi;exact PSubs.rfl)
  ·have hput:=Z0p0 hA hpn hinv (fun hh=>by omega) (.inl (by omega))
   refine⟨k+1,[(500,46)],⟨by omega,trivial⟩,by omega,?_⟩
   rw [hs,←hput,hx]
   (repeat' (first|exact PSub.rfl|exact rfl|exact PSubs.rfl|exact trivial|exact PSub.lit_sb rfl|refine And.intro ?_ ?_))
   all_goals (intro i hi;exact PSubs.rfl)
  all_goals (exfalso;omega)
 ·have e:k=l.length:=by omega
  subst e
  rw [List.take_length]
  exact .rfl
theorem Z06r (F:FuncId) (hcall:∀ (vals:Array Value) (w:World),(callFunc F vals).run Tryz.prog w = .ok (.enter F vals) w) (hF:∀ a b:Key,AC Tryz.prog F [.pv (.agg (cKey a)),.pv (.agg (cKey b))] [] (.pv (vbool (keyLess a b))) []) (l:List Key) (hl:smallL l) :
  AC Tryz.prog 90 [.pv (roL 3 cKey l),.fn F []] [] (.pv (roL 3 cKey (sortK l))) []:=by
 refine AC.with_fn (pre:=[.pv (roL 3 cKey l)]) (post:=[]) (Z06s lessG (fun _=>0) (fun _ _=>rfl) l hl) hcall rfl rfl rfl ?_
 rintro xs ⟨x,y,rfl⟩
 exact hF x y
set_option maxHeartbeats 1000000 in
theorem Z06q (gb:List PV→Bool) (gi:List PV→Int) (hgb:∀ a b:Key,gb [.agg (cKey a),.agg (cKey b)]=keyLess a b) (l:List Key) (hl:smallL l) :
  AC Tryz.prog 91 [.pv (roL 3 cKey l),.clo twoK true gb gi] [] (.pv (roL 3 cKey (sortK l))) []:=by
 have hl:l.length≤1048576:=hl
 have INS:=@Z068
 refine AC.of_awp (T:=T) T_ok hm Tryz.call91 Tryz.func91 rfl rfl rfl ?_
 conv=>whnf
 refine loop_k (ι:=Nat) [1,9,10] [] (fun k=>k≤l.length∧True) (fun k=>l.length - k) 0 (fun k=>[(5,.own 500),(11,.pv (vint k))]) (fun k=>[(500,rowL 3 cKey (sortK (l.take k)))]) [] ⟨Nat.zero_le _,trivial⟩ ?_ (fun k hk=>?_)
 ·(repeat' (first|exact PSub.rfl|exact rfl|exact PSubs.rfl|exact trivial|exact PSub.lit_sb rfl|refine And.intro ?_ ?_));all_goals ((intro i hi;exact absurd hi (by simp [sortK])))
 obtain⟨hkn,hinv⟩:=hk
 conv=>whnf
 have hlen:(sortK (l.take k)).length≤l.length:=Nat.le_trans (Z0ts _) (by rw [List.length_take];omega)
 have hA:Asc (sortK (l.take k)):=Z09a _
 refine⟨fun h=>?_,fun h=>?_⟩<;>(try simp only [Q0,Q1,Q2,Q3,Q4,Q5,Q6,Q7,Q8,reduceCtorEq] at h)<;>(conv=>whnf)
 ·have hk:k < l.length:=by omega
  have hs:=Z0tv hk
  repeat (any_goals (first
   |(refine And.intro (by(try simp only [Int.toNat_natCast]);omega) ?_;conv=>whnf)))
  obtain⟨x,hx⟩:∃ x,x=l.getD k default:=⟨_,rfl⟩
  rw [←hx] at hs
  generalize sortK (l.take k)=m at *
  refine loop_k (ι:=Nat) [1,5,7,9,10,11] [7,500] (fun p=>p≤m.length∧∀ j,j < p→keyLess (m.getD j default) x=true) (fun p=>m.length - p) 0 (fun p=>[(8,.pv (vint p))]) (fun _=>[]) [] ⟨Nat.zero_le _,fun j h=>absurd h (by omega)⟩ ?_ (fun p hp=>?_)
  ·(repeat' (first|exact PSub.rfl|exact rfl|exact PSubs.rfl|exact trivial|exact PSub.lit_sb rfl|refine And.intro ?_ ?_))
   all_goals (intro i hi;exact PSubs.rfl)
  obtain⟨hpn,hinv⟩:=hp
  conv=>whnf
  repeat (any_goals (first
   |(refine⟨fun(h:(_:Bool)=true)=>?_,fun(h:(_:Bool)=false)=>?_⟩<;>(try simp only [Q0,Q1,Q2,Q3,Q4,Q5,Q6,Q7,Q8,reduceCtorEq] at h)<;>(conv=>whnf))
   |(refine⟨⟨_,_,rfl⟩,?_⟩;conv=>whnf)
   |(refine .inr (.inr (.inr (.inr ⟨[(0,500),(2,45)],[(1,46)],_,_,_,(INS (l:=m) (i:=p) (x:=l.getD k default) hpn (by omega) (by exact⟨PSub.rfl,PSub.rfl,PSub.rfl,trivial⟩)),rfl,?_⟩)));conv=>whnf)
   |(refine And.intro (by(try simp only [Int.toNat_natCast]);omega) ?_;conv=>whnf)
   |(refine And.intro (show(_:Bool)=true from by kernel_rfl) ?_;conv=>whnf)
   |(refine .inl ⟨wrap64 (by omega),?_⟩;conv=>whnf)))
  ·refine⟨p+1,[],⟨by omega,fun j hj=>?_⟩,by omega,?_⟩
   ·by_cases e:j=p
    ·subst e;rw [hx,←hgb];exact h
    ·exact hinv j (by omega)
   ·(repeat' (first|exact PSub.rfl|exact rfl|exact PSubs.rfl|exact trivial|exact PSub.lit_sb rfl|refine And.intro ?_ ?_))
    all_goals (intro i hi;exact PSubs.rfl)
  ·exfalso;omega
  ·rename_i h1 h2
   have h3:=of_decide_eq_false ((key_eq _ _).symm.trans h)
   have h4:keyLess (m.getD p default) x=false:=by rw [hx,←hgb];assumption
   have hput:=Z0p0 hA hpn hinv (fun _=>h4) (.inr (by rw [hx];exact h3))
   refine⟨k+1,[(500,46)],⟨by omega,trivial⟩,by omega,?_⟩
   rw [hs,←hput,hx]
   (repeat' (first|exact PSub.rfl|exact rfl|exact PSubs.rfl|exact trivial|exact PSub.lit_sb rfl|refine And.intro ?_ ?_))
   all_goals (intro i hi;exact PSubs.rfl)
  ·have h3:=of_decide_eq_true ((key_eq _ _).symm.trans h)
   have hput:=Z0p3 (p:=p) hA (by omega) hinv (by rw [hx];exact h3)
   refine⟨k+1,[],⟨by omega,trivial⟩,by omega,?_⟩
   rw [hs,hput]
   (repeat' (first|exact PSub.rfl|exact rfl|exact PSubs.rfl|exact trivial|exact PSub.lit_sb rfl|refine And.intro ?_ ?_))
   all_goals (intro i hi;exact PSubs.rfl)
  ·have hput:=Z0p0 hA hpn hinv (fun hh=>by omega) (.inl (by omega))
   refine⟨k+1,[(500,46)],⟨by omega,trivial⟩,by omega,?_⟩
   rw [hs,←hput,hx]
   (repeat' (first|exact PSub.rfl|exact rfl|exact PSubs.rfl|exact trivial|exact PSub.lit_sb rfl|refine And.intro ?_ ?_))
   all_goals (intro i hi;exact PSubs.rfl)
  all_goals (exfalso;omega)
 ·have e:k=l.length:=by omega
  subst e
  rw [List.take_length]
  exact .rfl
theorem Z06p (F:FuncId) (hcall:∀ (vals:Array Value) (w:World),(callFunc F vals).run Tryz.prog w = .ok (.enter F vals) w) (hF:∀ a b:Key,AC Tryz.prog F [.pv (.agg (cKey a)),.pv (.agg (cKey b))] [] (.pv (vbool (keyLess a b))) []) (l:List Key) (hl:smallL l) :
  AC Tryz.prog 91 [.pv (roL 3 cKey l),.fn F []] [] (.pv (roL 3 cKey (sortK l))) []:=by
 refine AC.with_fn (pre:=[.pv (roL 3 cKey l)]) (post:=[]) (Z06q lessG (fun _=>0) (fun _ _=>rfl) l hl) hcall rfl rfl rfl ?_
 rintro xs ⟨x,y,rfl⟩
 exact hF x y
set_option maxHeartbeats 1000000 in
theorem Z06u (gb:List PV→Bool) (gi:List PV→Int) (hgb:∀ a b:ByteArray,gb [vstr a,vstr b]=sLt a b) (l:List ByteArray) (hl:smallL l) :
  AC Tryz.prog 93 [.pv (roL 1 cstr l),.clo twoS true gb gi] [] (.pv (roL 1 cstr (sortS l))) []:=by
 have hl:l.length≤1048576:=hl
 refine AC.of_awp (T:=T) T_ok hm Tryz.call93 Tryz.func93 rfl rfl rfl ?_
 conv=>whnf
 refine loop_k (ι:=Nat) [1,9,10] [] (fun k=>k≤l.length∧True) (fun k=>l.length - k) 0 (fun k=>[(5,.own 500),(11,.pv (vint k))]) (fun k=>[(500,rowL 1 cstr (sortS (l.take k)))]) [] ⟨Nat.zero_le _,trivial⟩ ?_ (fun k hk=>?_)
 ·(repeat' (first|exact PSub.rfl|exact rfl|exact PSubs.rfl|exact trivial|exact PSub.lit_sb rfl|refine And.intro ?_ ?_));all_goals ((intro i hi;exact absurd hi (by simp [sortS])))
 obtain⟨hkn,hinv⟩:=hk
 conv=>whnf
 have hlen:(sortS (l.take k)).length≤l.length:=Nat.le_trans (Z0ty _) (by rw [List.length_take];omega)
 have hA:AscS (sortS (l.take k)):=Z096 _
 refine⟨fun h=>?_,fun h=>?_⟩<;>(try simp only [Q0,Q1,Q2,Q3,Q4,Q5,Q6,Q7,Q8,reduceCtorEq] at h)<;>(conv=>whnf)
 ·have hk:k < l.length:=by omega
  have hs:=Z0u3 hk
  repeat (any_goals (first
   |(refine And.intro (by(try simp only [Int.toNat_natCast]);omega) ?_;conv=>whnf)))
  obtain⟨x,hx⟩:∃ x,x=l.getD k default:=⟨_,rfl⟩
  rw [←hx] at hs
  generalize sortS (l.take k)=m at *
  refine loop_k (ι:=Nat) [1,5,7,9,10,11] [500] (fun p=>p≤m.length∧∀ j,j < p→sLt (m.getD j default) x=true) (fun p=>m.length - p) 0 (fun p=>[(8,.pv (vint p))]) (fun _=>[]) [] ⟨Nat.zero_le _,fun j h=>absurd h (by omega)⟩ ?_ (fun p hp=>?_)
  ·(repeat' (first|exact PSub.rfl|exact rfl|exact PSubs.rfl|exact trivial|exact PSub.lit_sb rfl|refine And.intro ?_ ?_))
   all_goals (intro i hi;exact PSubs.rfl)
  obtain⟨hpn,hinv⟩:=hp
  conv=>whnf
  repeat (any_goals (first
   |(refine⟨fun(h:(_:Bool)=true)=>?_,fun(h:(_:Bool)=false)=>?_⟩<;>(try simp only [Q0,Q1,Q2,Q3,Q4,Q5,Q6,Q7,Q8,reduceCtorEq] at h)<;>(conv=>whnf))
   |(refine⟨⟨_,_,rfl⟩,?_⟩;conv=>whnf)
   |(refine .inr (.inr (.inr (.inr ⟨[(0,500),(2,45)],[(1,46)],_,_,_,(Z06a (l:=m) (i:=p) (x:=l.getD k default) hpn (by omega) (by exact⟨PSub.rfl,trivial⟩)),rfl,?_⟩)));conv=>whnf)
   |(refine And.intro (by(try simp only [Int.toNat_natCast]);omega) ?_;conv=>whnf)
   |(refine .inl ⟨wrap64 (by omega),?_⟩;conv=>whnf)))
  ·refine⟨p+1,[],⟨by omega,fun j hj=>?_⟩,by omega,?_⟩
   ·by_cases e:j=p
    ·subst e;rw [hx,←hgb];exact h
    ·exact hinv j (by omega)
   ·(repeat' (first|exact PSub.rfl|exact rfl|exact PSubs.rfl|exact trivial|exact PSub.lit_sb rfl|refine And.intro ?_ ?_))
    all_goals (intro i hi;exact PSubs.rfl)
  ·exfalso;omega
  ·have h4:sLt (m.getD p default) x=false:=by rw [hx,←hgb];assumption
   have hput:=Z0ow hA hpn hinv (fun _=>h4) (.inr (by rw [hx];exact h))
   refine⟨k+1,[(500,46)],⟨by omega,trivial⟩,by omega,?_⟩
   rw [hs,←hput,hx]
   (repeat' (first|exact PSub.rfl|exact rfl|exact PSubs.rfl|exact trivial|exact PSub.lit_sb rfl|refine And.intro ?_ ?_))
   all_goals (intro i hi;exact PSubs.rfl)
  ·have hput:=Z0oy (p:=p) (x:=x) hA (by omega) (by rw [hx];exact h)
   refine⟨k+1,[],⟨by omega,trivial⟩,by omega,?_⟩
   rw [hs,hput]
   (repeat' (first|exact PSub.rfl|exact rfl|exact PSubs.rfl|exact trivial|exact PSub.lit_sb rfl|refine And.intro ?_ ?_))
   all_goals (intro i hi;exact PSubs.rfl)
  ·have hput:=Z0ow hA hpn hinv (fun hh=>by omega) (.inl (by omega))
   refine⟨k+1,[(500,46)],⟨by omega,trivial⟩,by omega,?_⟩
   rw [hs,←hput,hx]
   (repeat' (first|exact PSub.rfl|exact rfl|exact PSubs.rfl|exact trivial|exact PSub.lit_sb rfl|refine And.intro ?_ ?_))
   all_goals (intro i hi;exact PSubs.rfl)
  all_goals (exfalso;omega)
 ·have e:k=l.length:=by omega
  subst e
  rw [List.take_length]
  exact .rfl
theorem Z06t (F:FuncId) (hcall:∀ (vals:Array Value) (w:World),(callFunc F vals).run Tryz.prog w = .ok (.enter F vals) w) (hF:∀ a b:ByteArray,AC Tryz.prog F [.pv (vstr a),.pv (vstr b)] [] (.pv (vbool (sLt a b))) []) (l:List ByteArray) (hl:smallL l) :
  AC Tryz.prog 93 [.pv (roL 1 cstr l),.fn F []] [] (.pv (roL 1 cstr (sortS l))) []:=by
 refine AC.with_fn (pre:=[.pv (roL 1 cstr l)]) (post:=[]) (Z06u lessGS (fun _=>0) (fun _ _=>rfl) l hl) hcall rfl rfl rfl ?_
 rintro xs ⟨x,y,rfl⟩
 exact hF x y
end Go.Abs
namespace Go.Abs
open Go.Proofs
set_option maxRecDepth 10000
theorem Z06n (a b:Key):AC Tryz.prog 92 [.pv (.agg (cKey a)),.pv (.agg (cKey b))] [] (.pv (vbool (keyLess a b))) []:=by
 refine AC.of_awp (T:=T) T_ok hm Tryz.call92 Tryz.func92 rfl rfl rfl ?_
 conv=>whnf
 repeat (any_goals (first
  |(refine⟨fun(h:(_:Bool)=true)=>?_,fun(h:(_:Bool)=false)=>?_⟩<;>(try simp only [Q0,Q1,Q2,Q3,Q4,Q5,Q6,Q7,Q8,reduceCtorEq] at h)<;>(conv=>whnf))))
 all_goals (try simp only [Q0,Q1,Q2,Q3,Q4,Q5,Q6,Q7,Q8,reduceCtorEq] at *)
 all_goals first
  |contradiction
  |(exfalso;omega)
  |exact PSub.rfl
  |(refine PSub.int ?_;simp only [keyLess];(repeat' split)<;>first|rfl|omega|(simp_all [-List.getD_eq_getElem?_getD];done)|(simp_all [-List.getD_eq_getElem?_getD];omega))
  |(refine PSub.sb ?_;simp_all [keyLess,-List.getD_eq_getElem?_getD];done)
  |(refine PSub.lit_sb ?_;simp_all [keyLess,-List.getD_eq_getElem?_getD];done)
  |(refine PSub.sb_lit ?_;simp_all [keyLess,-List.getD_eq_getElem?_getD];done)
  |(refine PSub.sb ?_;rw [Bool.eq_iff_iff];simp_all [keyLess,-List.getD_eq_getElem?_getD];done)
  |(refine PSub.lit_sb ?_;rw [Bool.eq_iff_iff];simp_all [keyLess,-List.getD_eq_getElem?_getD];done)
  |(refine PSub.sb_lit ?_;rw [Bool.eq_iff_iff];simp_all [keyLess,-List.getD_eq_getElem?_getD];done)
  |skip
theorem Z06m (a b:ByteArray):AC Tryz.prog 94 [.pv (vstr a),.pv (vstr b)] [] (.pv (vbool (sLt a b))) []:=by
 refine AC.of_awp (T:=T) T_ok hm Tryz.call94 Tryz.func94 rfl rfl rfl ?_
 conv=>whnf
 exact .rfl
theorem Z06x (a b:Int):AC Tryz.prog 95 [.pv (vint a),.pv (vint b)] [] (.pv (.tup [vint (winF a b),vint (winT a b)])) []:=by
 refine AC.of_awp (T:=T) T_ok hm Tryz.call95 Tryz.func95 rfl rfl rfl ?_
 conv=>whnf
 repeat (any_goals (first
  |(refine⟨fun(h:(_:Bool)=true)=>?_,fun(h:(_:Bool)=false)=>?_⟩<;>(try simp only [Q0,Q1,Q2,Q3,Q4,Q5,Q6,Q7,Q8,reduceCtorEq] at h)<;>(conv=>whnf))
  |(refine .inl ⟨wrap64 (by omega),?_⟩;conv=>whnf)))
 all_goals
  refine⟨?_,?_⟩<;>(conv=>whnf)
 all_goals first
  |(refine PSub.int ?_;have hw:winB a b=true:=decide_eq_true (by omega);unfold winF;rw [if_pos hw];omega)
  |(refine PSub.int ?_;have hw:winB a b=true:=decide_eq_true (by omega);unfold winT;rw [if_pos hw];done)
  |(refine PSub.int ?_;have hw:winB a b=false:=decide_eq_false (by omega);unfold winF;rw [if_neg (by rw [hw];decide)];done)
  |(refine PSub.int ?_;have hw:winB a b=false:=decide_eq_false (by omega);unfold winT;rw [if_neg (by rw [hw];decide)];done)
  |trace_state
theorem Z06l (h:Hap) (hh:smallHp h):AC Tryz.prog 53 [.pv (.agg (cHap h))] [] (.pv (.agg (cHap (normH h)))) []:=by
 refine AC.of_awp (T:=T) T_ok hm Tryz.call53 Tryz.func53 rfl rfl rfl ?_
 conv=>whnf
 repeat (any_goals (first
  |(refine .inl ⟨_,Z06r 56 Tryz.call56 Z00n h.changed hh.c,?_⟩;conv=>whnf)
  |(refine .inl ⟨_,Z06p 92 Tryz.call92 Z06n h.events hh.e,?_⟩;conv=>whnf)
  |(refine .inl ⟨_,Z06t 94 Tryz.call94 Z06m h.held hh.h,?_⟩;conv=>whnf)
  |(refine .inl ⟨_,Z06x h.fr h.to,?_⟩;conv=>whnf)))
 exact .rfl
theorem Z0z3 (a b:Int):-1≤winF a b∧winF a b≤1073741824:=by unfold winF winB;split<;>simp_all<;>omega
theorem Z0z4 (a b:Int):winT a b≤1073741824∧winT a b - winF a b≤1440:=by unfold winT winF winB;split<;>simp_all<;>omega
theorem Z0z2 (m:Int):0≤weekday m∧weekday m < 7:=by
 unfold weekday clampI
 split
 ·decide
 ·split
  ·decide
  ·have h1:0≤m.tdiv 1440:=Int.tdiv_nonneg (by omega) (by omega)
   exact⟨Int.tmod_nonneg _ (by omega),Int.tmod_lt_of_pos _ (by omega)⟩
theorem Z06w (fr to n mask:Int) (hf:-1≤fr∧fr≤1073741824) (ht:to≤1073741824):AC Tryz.prog 140 [.pv (vint fr),.pv (vint to),.pv (vint n),.pv (vint mask)] [] (.pv (vbool (strB fr to n mask))) []:=by
 have no:¬ (0≤n∧n < 1440∧1≤mask∧mask≤127∧0≤fr)→strB fr to n mask=false:=fun h=>by unfold strB;rw [decide_eq_false h,Bool.false_and]
 refine AC.of_awp (T:=T) T_ok hm Tryz.call140 Tryz.func140 rfl rfl rfl ?_
 conv=>whnf
 repeat (any_goals (first
  |(refine⟨fun(h:(_:Bool)=true)=>?_,fun(h:(_:Bool)=false)=>?_⟩<;>(try simp only [Q0,Q1,Q2,Q3,Q4,Q5,Q6,Q7,Q8,reduceCtorEq] at h)<;>(conv=>whnf))
  |(refine .inl ⟨wrap64 (by omega),?_⟩;conv=>whnf)))
 ·exact PSub.lit_sb (no (by omega)).symm
 ·exact PSub.lit_sb (no (by omega)).symm
 ·exact PSub.lit_sb (no (by omega)).symm
 ·exact PSub.lit_sb (no (by omega)).symm
 ·exact PSub.lit_sb (no (by omega)).symm
 have hin:strB fr to n mask=anyN (to - fr).toNat fun i=>minB n mask (fr+1+i):=by unfold strB;rw [decide_eq_true (by omega),Bool.true_and]
 rw [hin]
 by_cases hft:to < fr
 ·refine loop_k (ι:=Nat) [1,2,3] [] (fun k=>k=0) (fun k=>0) 0 (fun k=>[(9,.pv (vint (fr+1)))]) (fun _=>[]) [] rfl ?_ (fun k hk=>?_)
  ·(repeat' (first|exact PSub.rfl|exact rfl|exact PSubs.rfl|exact trivial|exact PSub.lit_sb rfl|refine And.intro ?_ ?_))
  conv=>whnf
  repeat (any_goals (first
   |(refine⟨fun(h:(_:Bool)=true)=>?_,fun(h:(_:Bool)=false)=>?_⟩<;>(try simp only [Q0,Q1,Q2,Q3,Q4,Q5,Q6,Q7,Q8,reduceCtorEq] at h)<;>(conv=>whnf))))
  ·exfalso;omega
  ·refine PSub.lit_sb ?_
   rw [Z08a fun j hj=>absurd hj (by omega)]
 refine loop_k (ι:=Nat) [1,2,3] [] (fun k=>k≤(to - fr).toNat∧∀ j,j < k→minB n mask (fr+1+j)=false) (fun k=>(to - fr).toNat - k) 0 (fun k=>[(9,.pv (vint (fr+1+(k:Int))))]) (fun _=>[]) [] ⟨Nat.zero_le _,fun j h=>absurd h (by omega)⟩ ?_ (fun k hk=>?_)
 ·(repeat' (first|exact PSub.rfl|exact rfl|exact PSubs.rfl|exact trivial|exact PSub.lit_sb rfl|refine And.intro ?_ ?_))
  all_goals exact PSub.int (by omega)
 obtain⟨hkn,hinv⟩:=hk
 conv=>whnf
 have hw:=Z0z2 (fr+1+(k:Int))
 repeat (any_goals (first
  |(refine⟨fun(h:(_:Bool)=true)=>?_,fun(h:(_:Bool)=false)=>?_⟩<;>(try simp only [Q0,Q1,Q2,Q3,Q4,Q5,Q6,Q7,Q8,reduceCtorEq] at h)<;>(conv=>whnf))
  |(refine .inl ⟨_,Z000 (fr+1+(k:Int)),?_⟩;conv=>whnf)
  |(refine .inl ⟨_,Z001 (fr+1+(k:Int)),?_⟩;conv=>whnf)
  |(refine And.intro (by(try simp only [Int.toNat_natCast]);omega) ?_;conv=>whnf)
  |(refine .inl ⟨wrap64 (by omega),?_⟩;conv=>whnf)))
 ·have hm:minB n mask (fr+1+(k:Int))=true:=by
   unfold minB
   rw [decide_eq_true (by assumption),Bool.true_and]
   exact decide_eq_true h
  exact PSub.lit_sb (by rw [Z08e (k:=k) (by omega) hm])
 ·have hm:minB n mask (fr+1+(k:Int))=false:=by
   unfold minB
   have:dayA mask (weekday (fr+1+(k:Int)))=false:=decide_eq_false h
   rw [this,Bool.and_false]
  refine⟨k+1,[],⟨by omega,fun j hj=>?_⟩,by omega,?_⟩
  ·by_cases e:j=k
   ·subst e;exact hm
   ·exact hinv j (by omega)
  (repeat' (first|exact PSub.rfl|exact rfl|exact PSubs.rfl|exact trivial|exact PSub.lit_sb rfl|refine And.intro ?_ ?_))
  all_goals exact PSub.int (by omega)
 ·have hm:minB n mask (fr+1+(k:Int))=false:=by
   unfold minB
   rw [decide_eq_false h,Bool.false_and]
  refine⟨k+1,[],⟨by omega,fun j hj=>?_⟩,by omega,?_⟩
  ·by_cases e:j=k
   ·subst e;exact hm
   ·exact hinv j (by omega)
  (repeat' (first|exact PSub.rfl|exact rfl|exact PSubs.rfl|exact trivial|exact PSub.lit_sb rfl|refine And.intro ?_ ?_))
  all_goals exact PSub.int (by omega)
 ·exact PSub.lit_sb (by rw [Z08a fun j hj=>hinv j (by omega)])
theorem ix_mem {l:List Key} {x:Key}:decide (0≤ixI l.length (firstI l.length fun i=>decide (x=l.getD i default)))=decide (x ∈ l):=by
 rw [decide_eq_decide]
 rcases Z0ej (n:=l.length) (p:=fun i=>decide (x=l.getD i default)) with ⟨h1,h2,_⟩|⟨h1,h2⟩
 ·rw [ixI,if_pos h1]
  have h3:=of_decide_eq_true h2
  refine⟨fun _=>?_,fun _=>by omega⟩
  rw [h3,Z0g2 _ _ h1];exact List.getElem_mem h1
 ·rw [ixI,h1,if_neg (Nat.lt_irrefl _)]
  refine⟨fun h=>absurd h (by decide),fun h=>?_⟩
  obtain⟨i,hi,e⟩:=List.getElem_of_mem h
  have:=h2 i hi
  rw [Z0g2 _ _ hi,e] at this
  simp at this
theorem Z065 (l:List Key) (x:Key) (hl:smallL l):AC Tryz.prog 198 [.pv (roL 3 cKey l),.pv (.agg (cKey x))] [] (.pv (vint (ixI l.length (firstI l.length fun i=>decide (x=l.getD i default))))) []:=by
 have hl:l.length≤1048576:=hl
 refine AC.of_awp (T:=T) T_ok hm Tryz.call198 Tryz.func198 rfl rfl rfl ?_
 conv=>whnf
 refine loop_k (ι:=Nat) [0,3,7] [3] (fun k=>k≤l.length∧(∀ j,j < k→decide (x=l.getD j default)=false)) (fun k=>l.length - k) 0 (fun k=>[(8,.pv (vint k))]) (fun _=>[]) [] ⟨Nat.zero_le _,fun j h=>absurd h (by omega)⟩ ?_ (fun k hk=>?_)
 ·(repeat' (first|exact PSub.rfl|exact rfl|exact PSubs.rfl|exact trivial|exact PSub.lit_sb rfl|refine And.intro ?_ ?_))
 obtain⟨hkn,hinv⟩:=hk
 conv=>whnf
 repeat (any_goals (first
  |(refine⟨fun(h:(_:Bool)=true)=>?_,fun(h:(_:Bool)=false)=>?_⟩<;>(try simp only [Q0,Q1,Q2,Q3,Q4,Q5,Q6,Q7,Q8,reduceCtorEq] at h)<;>(conv=>whnf))
  |(refine And.intro (by(try simp only [Int.toNat_natCast]);omega) ?_;conv=>whnf)
  |(refine And.intro (show(_:Bool)=true from by kernel_rfl) ?_;conv=>whnf)
  |(refine .inl ⟨wrap64 (by omega),?_⟩;conv=>whnf)))
 ·have e:=(key_eq _ _).symm.trans h
  exact PSub.int (by rw [Z0ei (k:=k) (by omega) e hinv,ixI,if_pos (by omega)])
 ·have e:=(key_eq _ _).symm.trans h
  refine⟨k+1,[],⟨by omega,?_⟩,by first|omega|(dsimp only;omega),?_⟩
  rotate_left
  ·(repeat' (first|exact PSub.rfl|exact rfl|exact PSubs.rfl|exact trivial|exact PSub.lit_sb rfl|refine And.intro ?_ ?_))
  intro j hj
  by_cases e2:j=k
  ·subst e2;exact e
  ·exact hinv j (by omega)
 ·exact PSub.int (by rw [Z0el (fun j hj=>hinv j (by omega)),ixI,if_neg (Nat.lt_irrefl _)])
theorem Z064 (l:List Key) (x:Key) (hl:smallL l):AC Tryz.prog 199 [.pv (roL 3 cKey l),.pv (.agg (cKey x))] [] (.pv (vint (ixI l.length (firstI l.length fun i=>decide (x=l.getD i default))))) []:=by
 have hl:l.length≤1048576:=hl
 refine AC.of_awp (T:=T) T_ok hm Tryz.call199 Tryz.func199 rfl rfl rfl ?_
 conv=>whnf
 refine loop_k (ι:=Nat) [0,3,7] [3] (fun k=>k≤l.length∧(∀ j,j < k→decide (x=l.getD j default)=false)) (fun k=>l.length - k) 0 (fun k=>[(8,.pv (vint k))]) (fun _=>[]) [] ⟨Nat.zero_le _,fun j h=>absurd h (by omega)⟩ ?_ (fun k hk=>?_)
 ·(repeat' (first|exact PSub.rfl|exact rfl|exact PSubs.rfl|exact trivial|exact PSub.lit_sb rfl|refine And.intro ?_ ?_))
 obtain⟨hkn,hinv⟩:=hk
 conv=>whnf
 repeat (any_goals (first
  |(refine⟨fun(h:(_:Bool)=true)=>?_,fun(h:(_:Bool)=false)=>?_⟩<;>(try simp only [Q0,Q1,Q2,Q3,Q4,Q5,Q6,Q7,Q8,reduceCtorEq] at h)<;>(conv=>whnf))
  |(refine And.intro (by(try simp only [Int.toNat_natCast]);omega) ?_;conv=>whnf)
  |(refine And.intro (show(_:Bool)=true from by kernel_rfl) ?_;conv=>whnf)
  |(refine .inl ⟨wrap64 (by omega),?_⟩;conv=>whnf)))
 ·have e:=(key_eq _ _).symm.trans h
  exact PSub.int (by rw [Z0ei (k:=k) (by omega) e hinv,ixI,if_pos (by omega)])
 ·have e:=(key_eq _ _).symm.trans h
  refine⟨k+1,[],⟨by omega,?_⟩,by first|omega|(dsimp only;omega),?_⟩
  rotate_left
  ·(repeat' (first|exact PSub.rfl|exact rfl|exact PSubs.rfl|exact trivial|exact PSub.lit_sb rfl|refine And.intro ?_ ?_))
  intro j hj
  by_cases e2:j=k
  ·subst e2;exact e
  ·exact hinv j (by omega)
 ·exact PSub.int (by rw [Z0el (fun j hj=>hinv j (by omega)),ixI,if_neg (Nat.lt_irrefl _)])
theorem Z05w (l:List Key) (x:Key) (hl:smallL l):AC Tryz.prog 138 [.pv (roL 3 cKey l),.pv (.agg (cKey x))] [] (.pv (vbool (decide (x ∈ l)))) []:=by
 refine AC.of_awp (T:=T) T_ok hm Tryz.call138 Tryz.func138 rfl rfl rfl ?_
 conv=>whnf
 repeat (any_goals (first
  |(refine .inl ⟨_,Z065 l x hl,?_⟩;conv=>whnf)))
 exact PSub.sb ix_mem
theorem Z05v (l:List Key) (x:Key) (hl:smallL l):AC Tryz.prog 139 [.pv (roL 3 cKey l),.pv (.agg (cKey x))] [] (.pv (vbool (decide (x ∈ l)))) []:=by
 refine AC.of_awp (T:=T) T_ok hm Tryz.call139 Tryz.func139 rfl rfl rfl ?_
 conv=>whnf
 repeat (any_goals (first
  |(refine .inl ⟨_,Z064 l x hl,?_⟩;conv=>whnf)))
 exact PSub.sb ix_mem
structure normB (h:Hap):Prop where
 s:smallHp h
 f:-1≤h.fr∧h.fr≤1073741824
 t:h.to≤1073741824
theorem Z0m7 (h:Hap) (hh:smallHp h):normB (normH h):=by
 have h1:h.changed.length≤1048576:=hh.c
 have h2:h.events.length≤1048576:=hh.e
 have h3:h.held.length≤1048576:=hh.h
 exact⟨⟨Nat.le_trans (Z0ts _) h1,Nat.le_trans (Z0ts _) h2,Nat.le_trans (Z0ty _) h3⟩,Z0z3 _ _,(Z0z4 h.fr h.to).1⟩
theorem Z06o (x:Trg) (s:ByteArray) (p:Hap) (hh:normB p):AC Tryz.prog 89 [.pv (.agg (cTrg x)),.pv (vstr s),.pv (.agg (cHap p))] [] (.pv (vbool (trB x s p))) []:=by
 refine AC.of_awp (T:=T) T_ok hm Tryz.call89 Tryz.func89 rfl rfl rfl ?_
 conv=>whnf
 repeat (any_goals (first
  |(refine⟨fun(h:(_:Bool)=true)=>?_,fun(h:(_:Bool)=false)=>?_⟩<;>(try simp only [Q0,Q1,Q2,Q3,Q4,Q5,Q6,Q7,Q8,reduceCtorEq] at h)<;>(conv=>whnf))
  |(refine .inl ⟨_,Z05w p.changed x.key hh.s.c,?_⟩;conv=>whnf)
  |(refine .inl ⟨_,Z05v p.events (eK x.event) hh.s.e,?_⟩;conv=>whnf)
  |(refine .inl ⟨_,Z06w p.fr p.to x.n x.m hh.f hh.t,?_⟩;conv=>whnf)
  |(refine .inl ⟨_,Z05x p.held 0 s hh.s.h,?_⟩;conv=>whnf)))
 all_goals first
  |(refine PSub.sb ?_;unfold trB;simp [*,memS];done)
  |(refine PSub.lit_sb ?_;unfold trB;simp [*,memS];done)
  |trace_state
theorem Z06v (r:Rul) (p:Hap) (ho:smallL r.on) (hh:normB p):AC Tryz.prog 52 [.pv (.agg (cRul r)),.pv (.agg (cHap p))] [] (.pv (vbool (anyN r.on.length fun i=>trB (r.on.getD i default) r.name p))) []:=by
 have ho:r.on.length≤1048576:=ho
 refine AC.of_awp (T:=T) T_ok hm Tryz.call52 Tryz.func52 rfl rfl rfl ?_
 conv=>whnf
 refine loop_k (ι:=Nat) [2,3,8,9] [2,3] (fun k=>k≤r.on.length∧(∀ j,j < k→trB (r.on.getD j default) r.name p=false)) (fun k=>r.on.length - k) 0 (fun k=>[(10,.pv (vint k))]) (fun _=>[]) [] ⟨Nat.zero_le _,fun j h=>absurd h (by omega)⟩ ?_ (fun k hk=>?_)
 ·(repeat' (first|exact PSub.rfl|exact rfl|exact PSubs.rfl|exact trivial|exact PSub.lit_sb rfl|refine And.intro ?_ ?_))
 obtain⟨hkn,hinv⟩:=hk
 conv=>whnf
 repeat (any_goals (first
  |(refine⟨fun(h:(_:Bool)=true)=>?_,fun(h:(_:Bool)=false)=>?_⟩<;>(try simp only [Q0,Q1,Q2,Q3,Q4,Q5,Q6,Q7,Q8,reduceCtorEq] at h)<;>(conv=>whnf))
  |(refine .inl ⟨_,Z06o (r.on.getD k default) r.name p hh,?_⟩;conv=>whnf)
  |(refine And.intro (by(try simp only [Int.toNat_natCast]);omega) ?_;conv=>whnf)
  |(refine .inl ⟨wrap64 (by omega),?_⟩;conv=>whnf)))
 ·exact PSub.lit_sb (by rw [Z08e (k:=k) (by omega) h])
 ·refine⟨k+1,[],⟨by omega,?_⟩,by first|omega|(dsimp only;omega),?_⟩
  rotate_left
  ·(repeat' (first|exact PSub.rfl|exact rfl|exact PSubs.rfl|exact trivial|exact PSub.lit_sb rfl|refine And.intro ?_ ?_))
  intro j hj
  by_cases e2:j=k
  ·subst e2;exact h
  ·exact hinv j (by omega)
 ·exact PSub.lit_sb (by rw [Z08a fun j hj=>hinv j (by omega)])
theorem Z06k (r:Rul) (p:Hap) (ho:smallL r.on) (hh:smallHp p):AC Tryz.prog 26 [.pv (.agg (cRul r)),.pv (.agg (cHap p))] [] (.pv (vbool (anyB r p))) []:=by
 refine AC.of_awp (T:=T) T_ok hm Tryz.call26 Tryz.func26 rfl rfl rfl ?_
 conv=>whnf
 repeat (any_goals (first
  |(refine .inl ⟨_,Z06l p hh,?_⟩;conv=>whnf)
  |(refine .inl ⟨_,Z06v r (normH p) ho (Z0m7 p hh),?_⟩;conv=>whnf)
  |(refine And.intro (show(_:Bool)=true from by kernel_rfl) ?_;conv=>whnf)))
 all_goals exact .rfl
end Go.Abs
namespace Go.Abs
open Go.Proofs
set_option maxRecDepth 10000
theorem no_fit (v:Val):fitsE noAttr v≠0:=by
 unfold fitsE
 rw [if_pos (by decide)];decide
theorem set_no {s:Sco} {v:Vw} {x:Stp} {c:Cause} {i:Int} (h:¬ ((findA s.home x.key).isSome=true∧(evlE v x.expr).2=true∧fitsE ((findA s.home x.key).getD noAttr) (limX s v x)=0)):setW s v x c i = []:=if_neg h
theorem Z0t1 {s:Sco} {v:Vw} {x:Stp} {c:Cause} {i:Int} (h2:(evlE v x.expr).2=true) (h3:fitsE ((findA s.home x.key).getD noAttr) (limX s v x)=0):setW s v x c i = [⟨x.key,limX s v x,c,i⟩]:=by
 refine if_pos ⟨?_,h2,h3⟩
 cases hf:findA s.home x.key with
 |none=>rw [hf] at h3;exact absurd h3 (no_fit _)
 |some a=>rfl
theorem sce_no {s:Sco} {sc:List Scene} {x:Stp} {c:Cause} {i:Int} (h:¬ (sceAt sc x.name < sc.length∧checkS s.home (findS sc x.name)=0)):sceW s sc x c i = []:=if_neg h
theorem Z0e7 {sc:List Scene} {n:ByteArray} (hl:∀ i,i < sc.length→smallL (sc.getD i default).items):smallL (findS sc n).items:=by
 unfold findS
 split
 ·exact hl _ ‹_›
 ·exact Nat.zero_le _
end Go.Abs
namespace Go.Abs
open Go.Proofs
set_option maxRecDepth 10000
theorem Z08p {c:Clu} {d:Cmd} {p:Val} {vals:List Val}:∀ n,(applyTo c d p vals n).length=vals.length
 |0=>rfl
 |n+1=>by rw [applyTo,stepL,List.length_set];exact Z08p n
theorem Z08l (c:Clu) (s:ByteArray) (p:Val) (vals:List Val):(applyL c s p vals).length≤vals.length:=by
 unfold applyL
 split
 ·rw [Z08p];exact Nat.le_refl _
 ·exact Nat.zero_le _
theorem Z09y (l:List Item) (dev:Int) (k:Clu) (n:Nat):(bfrL l dev k n).length=n:=by simp [bfrL]
theorem Z09z (l:List Item) (dev:Int) (k:Clu) (n:Nat):bfrL l dev k (n+1)=bfrL l dev k n ++ [befV l dev k n]:=by
 unfold bfrL;rw [List.range_succ,List.map_append];rfl
theorem Z07p (v:Vw) (x:Stp) (k:Clu):(aftL v x k).length≤k.attrs.length:=by
 have:=Z08l k x.name (parX v x k) (bfrL v.items x.key.dev k k.attrs.length)
 rw [Z09y] at this
 exact this
theorem Z09w (l:List Item) (dev:Int) (k:Clu) (j:Nat):befV l dev k j=if itemAt l (keyX dev k j) < l.length then (getI l (keyX dev k j)).value else zeroV (k.attrs.getD j default):=by
 unfold befV
 rw [Z0dw]
 by_cases h:itemAt l (keyX dev k j) < l.length
 ·rw [if_pos h,if_pos h]
  have h2:=Z0g5 l (keyX dev k j)
  rw [Z0dw,if_pos h] at h2
  rw [h2];rfl
 ·rw [if_neg h,if_neg h]
def chgTo (v:Vw) (x:Stp) (k:Clu) (c:Cause) (i:Int) (n:Nat):List Write:=(List.range n).flatMap (chgW v x k c i)
theorem Z0az (v:Vw) (x:Stp) (k:Clu) (c:Cause) (i:Int) (n:Nat):chgTo v x k c i (n+1)=chgTo v x k c i n ++ chgW v x k c i n:=by
 unfold chgTo
 rw [List.range_succ,List.flatMap_append]
 simp
theorem Z0ay (v:Vw) (x:Stp) (k:Clu) (c:Cause) (i:Int):∀ n,(chgTo v x k c i n).length≤n
 |0=>by simp [chgTo]
 |n+1=>by
  rw [Z0az,List.length_append]
  have:=Z0ay v x k c i n
  have h2:(chgW v x k c i n).length≤1:=by unfold chgW;split<;>simp
  omega
end Go.Abs
namespace Go.Abs
open Go.Proofs
set_option maxRecDepth 10000
def runB (s:Sco) (sc:List Scene) (v:Vw) (a b c d:Nat):AObj:=.box ((cSco s ++ (roL 2 cSce sc :: cVw v)).map .pv ++ [.own a,.own b,.own c,.own d])
def runIn (s:Sco) (sc:List Scene) (v:Vw) (o:Out):List (Nat × AObj):=[(900000,runB s sc v 900001 900002 900003 900004),(900001,rowL 10 cWrite o.writes),(900002,rowL 10 cWrite o.modes),(900003,rowL 1 cstr o.ran),(900004,rowL 1 cstr o.notes)]
def runW (s:Sco) (sc:List Scene) (v:Vw) (o:Out) (w:List Write):List (Nat × AObj):=[(900000,runB s sc v 1 900002 900003 900004),(1,rowL 10 cWrite w),(900001,.gone),(900002,rowL 10 cWrite o.modes),(900003,rowL 1 cstr o.ran),(900004,rowL 1 cstr o.notes)]
def runM (s:Sco) (sc:List Scene) (v:Vw) (o:Out) (w:List Write):List (Nat × AObj):=[(900000,runB s sc v 900001 1 900003 900004),(1,rowL 10 cWrite w),(900001,rowL 10 cWrite o.writes),(900002,.gone),(900003,rowL 1 cstr o.ran),(900004,rowL 1 cstr o.notes)]
def runN (s:Sco) (sc:List Scene) (v:Vw) (o:Out) (w:List ByteArray):List (Nat × AObj):=[(900000,runB s sc v 900001 900002 900003 1),(1,rowL 1 cstr w),(900001,rowL 10 cWrite o.writes),(900002,rowL 10 cWrite o.modes),(900003,rowL 1 cstr o.ran),(900004,.gone)]
def cOri (c:Cause) (i:Int):List PV:=cCause c ++ [vint i]
theorem Z05h (s:Sco) (sc:List Scene) (v:Vw) (o:Out) (q:Key) (u:Val) (c:Cause) (i:Int) (hl:o.writes.length≤1048576) :
  AC Tryz.prog 286 [.ptr 900000 0,.pv (.agg (cKey q)),.pv (.agg (cVal u)),.pv (.agg (cOri c i))] (runIn s sc v o) (.pv (.tup [])) (runW s sc v o (o.writes ++ [⟨q,u,c,i⟩])):=by
 refine AC.of_awp_gen (T:=T) T_ok hm Tryz.call286 Tryz.func286 rfl rfl rfl rfl rfl rfl ?_
 conv=>whnf
 repeat (any_goals (first
  |(refine And.intro (by(try simp only [Int.toNat_natCast]);omega) ?_;conv=>whnf)
  |(refine And.intro (show(_:Bool)=true from by kernel_rfl) ?_;conv=>whnf)))
 refine⟨rfl,[(1,22)],?_⟩
 conv=>whnf
 (repeat' (first|exact PSub.rfl|exact rfl|exact PSubs.rfl|exact trivial|exact PSub.lit_sb rfl|refine And.intro ?_ ?_))
 all_goals first
  |(intro j hj;exact PSubs.rfl)
  |(simp;done)
  |skip
 all_goals
  refine Z0qz (fun i hi=>by simp only [if_pos hi];exact PSubs.rfl) (by simp only [if_neg (Nat.lt_irrefl _),Nat.sub_self];exact PSubs.rfl)
theorem Z05k (s:Sco) (sc:List Scene) (v:Vw) (o:Out) (x:Stp) (c:Cause) (i:Int) (hl:o.modes.length≤1048576) :
  AC Tryz.prog 307 [.pv (.agg (cStp x)),.ptr 900000 0,.pv (.agg (cOri c i))] (runIn s sc v o) (.pv (.tup [])) (runM s sc v o (o.modes ++ [⟨noKey,⟨4,0,x.name⟩,c,i⟩])):=by
 refine AC.of_awp_gen (T:=T) T_ok hm Tryz.call307 Tryz.func307 rfl rfl rfl rfl rfl rfl ?_
 conv=>whnf
 repeat (any_goals (first
  |(refine And.intro (by(try simp only [Int.toNat_natCast]);omega) ?_;conv=>whnf)
  |(refine And.intro (show(_:Bool)=true from by kernel_rfl) ?_;conv=>whnf)))
 refine⟨rfl,[(1,22)],?_⟩
 conv=>whnf
 (repeat' (first|exact PSub.rfl|exact rfl|exact PSubs.rfl|exact trivial|exact PSub.lit_sb rfl|refine And.intro ?_ ?_))
 all_goals first
  |(intro j hj;exact PSubs.rfl)
  |(simp;done)
  |skip
 all_goals
  refine Z0qz (fun i hi=>by simp only [if_pos hi];exact PSubs.rfl) (by simp only [if_neg (Nat.lt_irrefl _),Nat.sub_self];exact PSubs.rfl)
theorem Z05f (s:Sco) (sc:List Scene) (v:Vw) (o:Out) (x:Stp) (c:Cause) (i:Int) (hl:o.notes.length≤1048576) (hn:c.name.size≤1048576) (hx:x.name.size≤1048576) :
  AC Tryz.prog 308 [.pv (.agg (cStp x)),.ptr 900000 0,.pv (.agg (cOri c i))] (runIn s sc v o) (.pv (.tup [])) (runN s sc v o (o.notes ++ [c.name ++ (⟨#[58,32]⟩:ByteArray) ++ x.name])):=by
 refine AC.of_awp_gen (T:=T) T_ok hm Tryz.call308 Tryz.func308 rfl rfl rfl rfl rfl rfl ?_
 conv=>whnf
 have s1:((c.name.size+(⟨#[58,32]⟩:ByteArray).size:Nat):Int)≤IntKind.i64.max:=by
  show((c.name.size+2:Nat):Int)≤9223372036854775807;omega
 have s2:(((c.name ++ (⟨#[58,32]⟩:ByteArray)).size+x.name.size:Nat):Int)≤IntKind.i64.max:=by
  rw [ByteArray.size_append]
  show((c.name.size+2+x.name.size:Nat):Int)≤9223372036854775807;omega
 repeat (any_goals (first
  |(refine And.intro (by(try simp only [Int.toNat_natCast]);omega) ?_;conv=>whnf)
  |(refine And.intro (show(_:Bool)=true from by kernel_rfl) ?_;conv=>whnf)))
 refine⟨rfl,[(1,21)],?_⟩
 conv=>whnf
 (repeat' (first|exact PSub.rfl|exact rfl|exact PSubs.rfl|exact trivial|exact PSub.lit_sb rfl|refine And.intro ?_ ?_))
 all_goals first
  |(intro j hj;exact PSubs.rfl)
  |(simp;done)
  |skip
 all_goals
  refine Z0qz (fun i hi=>by simp only [if_pos hi];exact PSubs.rfl) (by simp only [if_neg (Nat.lt_irrefl _),Nat.sub_self];exact PSubs.rfl)
theorem Z05i (s:Sco) (sc:List Scene) (v:Vw) (o:Out) (x:Stp) (c:Cause) (i:Int) (hs:smallS s) (hv:smallV2 v) (hl:o.writes.length≤1048576) :
  AC Tryz.prog 287 [.pv (.agg (cStp x)),.ptr 900000 0,.pv (.agg (cOri c i))] (runIn s sc v o) (.pv (.tup [])) (runW s sc v o (o.writes ++ setW s v x c i)):=by
 have hen:((findA s.home x.key).getD noAttr).enum.length≤1048576:=Z0tl hs.1
 refine AC.of_awp_gen (T:=T) T_ok hm Tryz.call287 Tryz.func287 rfl rfl rfl rfl rfl rfl ?_
 conv=>whnf
 repeat (any_goals (first
  |(refine⟨fun(h:(_:Bool)=true)=>?_,fun(h:(_:Bool)=false)=>?_⟩<;>(try simp only [Q0,Q1,Q2,Q3,Q4,Q5,Q6,Q7,Q8,reduceCtorEq] at h)<;>(conv=>whnf))
  |(refine .inl ⟨_,Z00l s.home x.key hs.1,?_⟩;conv=>whnf)
  |(refine .inl ⟨_,Z00u v x.expr hv,?_⟩;conv=>whnf)
  |(refine .inl ⟨_,Z07f ((findA s.home x.key).getD noAttr) (evlE v x.expr).1 hen,?_⟩;conv=>whnf)
  |(refine .inl ⟨_,Z07d ((findA s.home x.key).getD noAttr) (limX s v x) hen,?_⟩;conv=>whnf)
  |(refine .inr (.inr (.inr (.inr ⟨[(900000,900000),(900001,900001),(900002,900002),(900003,900003),(900004,900004)],[(1,700)],_,_,_,Z05h s sc v o x.key (limX s v x) c i hl,rfl,?_⟩)));conv=>whnf)
  |(refine And.intro (show(_:Bool)=true from by kernel_rfl) ?_;conv=>whnf)))
 ·rw [set_no (fun y=>by rw [y.1] at h;cases h),List.append_nil]
  refine⟨rfl,[(1,900001)],?_⟩
  conv=>whnf
  (repeat' (first|exact PSub.rfl|exact rfl|exact PSubs.rfl|exact trivial|exact PSub.lit_sb rfl|refine And.intro ?_ ?_))
  all_goals (intro j hj;exact PSubs.rfl)
 ·rw [set_no (fun y=>by rw [y.2.1] at h;cases h),List.append_nil]
  refine⟨rfl,[(1,900001)],?_⟩
  conv=>whnf
  (repeat' (first|exact PSub.rfl|exact rfl|exact PSubs.rfl|exact trivial|exact PSub.lit_sb rfl|refine And.intro ?_ ?_))
  all_goals (intro j hj;exact PSubs.rfl)
 ·rw [Z0t1 (by assumption) h]
  refine⟨rfl,[(1,700)],?_⟩
  conv=>whnf
  (repeat' (first|exact PSub.rfl|exact rfl|exact PSubs.rfl|exact trivial|exact PSub.lit_sb rfl|refine And.intro ?_ ?_))
  all_goals (intro j hj;exact PSubs.rfl)
 ·rw [set_no (fun y=>h y.2.2),List.append_nil]
  refine⟨rfl,[(1,900001)],?_⟩
  conv=>whnf
  (repeat' (first|exact PSub.rfl|exact rfl|exact PSubs.rfl|exact trivial|exact PSub.lit_sb rfl|refine And.intro ?_ ?_))
  all_goals (intro j hj;exact PSubs.rfl)
def runL (s:Sco) (sc:List Scene) (v:Vw) (o:Out) (w:List Write):List (Nat × AObj):=[(900000,runB s sc v 501 900002 900003 900004),(501,rowL 10 cWrite w),(900001,.gone),(900002,rowL 10 cWrite o.modes),(900003,rowL 1 cstr o.ran),(900004,rowL 1 cstr o.notes)]
set_option maxHeartbeats 1000000 in
theorem Z05j (s:Sco) (sc:List Scene) (v:Vw) (o:Out) (x:Stp) (c:Cause) (i:Int) (hs:smallS s) (hsc:smallL sc) (hsi:∀ i,i < sc.length→smallL (sc.getD i default).items) (hl:o.writes.length+(sceW s sc x c i).length≤1048576) :
  AC Tryz.prog 300 [.pv (.agg (cStp x)),.ptr 900000 0,.pv (.agg (cOri c i))] (runIn s sc v o) (.pv (.tup [])) (runW s sc v o (o.writes ++ sceW s sc x c i)):=by
 have hit:=Z0e7 (n:=x.name) hsi
 have hit2:(findS sc x.name).items.length≤1048576:=hit
 have hsi2:∀ i,smallL (sc.getD i default).items:=fun i=>by
  by_cases h:i < sc.length
  ·exact hsi i h
  ·have:sc.getD i default=default:=by simp [List.getD,Nat.le_of_not_lt h]
   rw [this];exact Nat.zero_le _
 refine AC.of_awp_gen (T:=T) T_ok hm Tryz.call300 Tryz.func300 rfl rfl rfl rfl rfl rfl ?_
 conv=>whnf
 repeat (any_goals (first
  |(refine⟨fun(h:(_:Bool)=true)=>?_,fun(h:(_:Bool)=false)=>?_⟩<;>(try simp only [Q0,Q1,Q2,Q3,Q4,Q5,Q6,Q7,Q8,reduceCtorEq] at h)<;>(conv=>whnf))
  |(refine .inl ⟨_,Z05n sc x.name hsc hsi2,?_⟩;conv=>whnf)
  |(refine .inl ⟨_,Z05m s.home (findS sc x.name) hs.1 hit,?_⟩;conv=>whnf)
  |(refine .inl ⟨_,Z05l (findS sc x.name) c (by omega),?_⟩;conv=>whnf)
  |(refine And.intro (show(_:Bool)=true from by kernel_rfl) ?_;conv=>whnf)))
 ·rw [sce_no (fun y=>h y.1),List.append_nil]
  refine⟨rfl,[(1,900001)],?_⟩
  conv=>whnf
  (repeat' (first|exact PSub.rfl|exact rfl|exact PSubs.rfl|exact trivial|exact PSub.lit_sb rfl|refine And.intro ?_ ?_))
  all_goals (intro j hj;exact PSubs.rfl)
 ·rw [sce_no (fun y=>h y.2),List.append_nil]
  refine⟨rfl,[(1,900001)],?_⟩
  conv=>whnf
  (repeat' (first|exact PSub.rfl|exact rfl|exact PSubs.rfl|exact trivial|exact PSub.lit_sb rfl|refine And.intro ?_ ?_))
  all_goals (intro j hj;exact PSubs.rfl)
 have e:sceW s sc x c i=(applyS (findS sc x.name) c (findS sc x.name).items.length).map (atW i):=if_pos ⟨by assumption,h⟩
 rw [e] at hl ⊢
 have hca:∀ k,k < (applyS (findS sc x.name) c (findS sc x.name).items.length).length→((applyS (findS sc x.name) c (findS sc x.name).items.length).getD k default).cause=c:=fun k hk=>by
  rw [Z0g2 _ _ hk]
  simp [applyS]
 generalize applyS (findS sc x.name) c (findS sc x.name).items.length=l at *
 rw [List.length_map] at hl
 refine loop_k (ι:=Nat) [1,5,36,37] [5] (fun k=>k≤l.length) (fun k=>l.length - k) 0 (fun k=>[(38,.pv (vint k))]) (fun k=>runL s sc v o (o.writes ++ (l.take k).map (atW i))) [(501,900001)] (Nat.zero_le _) ?_ (fun k hk=>?_)
 ·rw [show o.writes ++ (l.take 0).map (atW i)=o.writes from by simp]
  conv=>whnf
  (repeat' (first|exact PSub.rfl|exact rfl|exact PSubs.rfl|exact trivial|exact PSub.lit_sb rfl|refine And.intro ?_ ?_))
  all_goals (intro j hj;exact PSubs.rfl)
 have hml:((l.take k).map (atW i)).length=k:=by rw [List.length_map,List.length_take];omega
 have hal:(o.writes ++ (l.take k).map (atW i)).length=o.writes.length+k:=by rw [List.length_append,hml]
 conv=>whnf
 refine⟨fun h=>?_,fun h=>?_⟩<;>(try simp only [Q0,Q1,Q2,Q3,Q4,Q5,Q6,Q7,Q8,reduceCtorEq] at h)<;>(conv=>whnf)
 ·have hk2:k < l.length:=by omega
  have cw:=Z05h s sc v { o with writes:=o.writes ++ (l.take k).map (atW i) } (l.getD k default).key (l.getD k default).value c i (by show _≤_;rw [hal];omega)
  have ew:(⟨(l.getD k default).key,(l.getD k default).value,c,i⟩:Write)=atW i (l.getD k default):=by
   unfold atW
   rw [←hca k hk2]
  rw [ew] at cw
  have hsn:o.writes ++ (l.take (k+1)).map (atW i)=(o.writes ++ (l.take k).map (atW i)) ++ [atW i (l.getD k default)]:=by
   rw [Z0xx hk2,List.map_append,List.append_assoc];rfl
  repeat (any_goals (first
   |(refine .inr (.inr (.inr (.inr ⟨[(900000,900000),(900001,501),(900002,900002),(900003,900003),(900004,900004)],[(1,701)],_,_,_,cw,rfl,?_⟩)));conv=>whnf)
   |(refine And.intro (by(try simp only [Int.toNat_natCast]);omega) ?_;conv=>whnf)
   |(refine .inl ⟨wrap64 (by omega),?_⟩;conv=>whnf)))
  refine⟨k+1,[(501,701)],by omega,by omega,?_⟩
  rw [hsn]
  conv=>whnf
  (repeat' (first|exact PSub.rfl|exact rfl|exact PSubs.rfl|exact trivial|exact PSub.lit_sb rfl|refine And.intro ?_ ?_))
  all_goals (intro j hj;exact PSubs.rfl)
 ·have e2:k=l.length:=by omega
  subst e2
  rw [List.take_length]
  refine⟨rfl,[(1,501)],?_⟩
  conv=>whnf
  (repeat' (first|exact PSub.rfl|exact rfl|exact PSubs.rfl|exact trivial|exact PSub.lit_sb rfl|refine And.intro ?_ ?_))
  all_goals (intro j hj;exact PSubs.rfl)
end Go.Abs
namespace Go.Abs
open Go.Proofs
theorem Z0rf {s:Sco} {l:List Rul} (h1:scoE s=0) (h2:(rulesE s l).2=0):runE s l=0:=by
 unfold runE;rw [if_neg (by rw [h1];decide),h2]
structure GoodW (s:Sco) (w:Write):Prop where
 found:(findA s.home w.key).isSome=true
 writ:((findA s.home w.key).getD noAttr).writable=true
 fits:fitsE ((findA s.home w.key).getD noAttr) w.value=0
structure CluOf (s:Sco) (x:Stp) (k:Clu):Prop where
 part:partO s.home x.key.dev x.key.cluster=some k
 home:homE s.home=0
 mem:k ∈ s.home.clusters
 name:k.name=x.key.cluster
 chk:Checked k
 cmd:cmdAt k.commands x.name < k.commands.length
theorem clu_of {s:Sco} {x:Stp} (hx:x.kind=2) (h:doE s x=0):∃ k,CluOf s x k:=by
 rw [doE,if_neg (by omega),if_pos hx,comE] at h
 cases hc:comO s x with
 |none=>rw [hc] at h;cases h
 |some d=>
  unfold comO at hc
  cases hp:partO s.home x.key.dev x.key.cluster with
  |none=>rw [hp] at hc;cases hc
  |some c=>
   rw [hp] at hc
   dsimp only at hc
   split at hc
   ·rename_i hlt
    have hp0:=hp
    unfold partO at hp
    split at hp
    ·rename_i hb
     have hh:homE s.home=0:=by
      have:=hb.1
      unfold findB at this
      simp only [Bool.and_eq_true,decide_eq_true_eq] at this
      exact this.1
     refine⟨c,hp0,hh,List.mem_of_find?_eq_some hp,?_,Z0aw (clu_ok hh (List.mem_of_find?_eq_some hp)),hlt⟩
     have:=List.find?_some hp
     simpa using this
    ·cases hp
   ·cases hc
end Go.Abs
namespace Go.Abs
open Go.Proofs
set_option maxRecDepth 10000
theorem Z05e (H:Hom) (n:ByteArray) (k:Clu) (hH:smallH H) (hk:firstC H.clusters n=some k):AC Tryz.prog 290 [.pv (.agg (cHom H)),.pv (vstr n)] [] (.pv (.agg (cClu k))) []:=by
 have hl:H.clusters.length≤1048576:=hH.1.1
 refine AC.of_awp (T:=T) T_ok hm Tryz.call290 Tryz.func290 rfl rfl rfl ?_
 conv=>whnf
 refine loop_k (ι:=Nat) [1,4,8,9] [4] (fun q=>q≤H.clusters.length∧(∀ j,j < q→decide ((H.clusters.getD j default).name=n)=false)) (fun q=>H.clusters.length - q) 0 (fun q=>[(10,.pv (vint q))]) (fun _=>[]) [] ⟨Nat.zero_le _,fun j h=>absurd h (by omega)⟩ ?_ (fun q hk=>?_)
 ·(repeat' (first|exact PSub.rfl|exact rfl|exact PSubs.rfl|exact trivial|exact PSub.lit_sb rfl|refine And.intro ?_ ?_))
 obtain⟨hkn,hinv⟩:=hk
 conv=>whnf
 repeat (any_goals (first
  |(refine⟨fun(h:(_:Bool)=true)=>?_,fun(h:(_:Bool)=false)=>?_⟩<;>(try simp only [Q0,Q1,Q2,Q3,Q4,Q5,Q6,Q7,Q8,reduceCtorEq] at h)<;>(conv=>whnf))
  |(refine And.intro (by(try simp only [Int.toNat_natCast]);omega) ?_;conv=>whnf)
  |(refine .inl ⟨wrap64 (by omega),?_⟩;conv=>whnf)))
 ·have e:firstC H.clusters n=some (H.clusters.getD q default):=by
   unfold firstC
   rw [List.find?_eq_some_iff_getElem]
   refine⟨by rw [decide_eq_true_eq];exact h,q,by omega,by rw [Z0g2 _ _ (by omega)],fun j hj=>?_⟩
   have:=hinv j hj
   rw [Z0g2 _ _ (by omega)] at this
   rw [this];rfl
  rw [hk] at e
  cases e
  exact .rfl
 ·refine⟨q+1,[],⟨by omega,?_⟩,by first|omega|(dsimp only;omega),?_⟩
  rotate_left
  ·(repeat' (first|exact PSub.rfl|exact rfl|exact PSubs.rfl|exact trivial|exact PSub.lit_sb rfl|refine And.intro ?_ ?_))
  intro j hj
  by_cases e:j=q
  ·subst e;first|exact h|simpa [-List.getD_eq_getElem?_getD] using h|simp_all [-List.getD_eq_getElem?_getD]
  ·exact hinv j (by omega)
 ·exfalso
  unfold firstC at hk
  have h1:=List.mem_of_find?_eq_some hk
  have h2:=List.find?_some hk
  obtain⟨j,hj,e⟩:=List.getElem_of_mem h1
  have:=hinv j (by omega)
  rw [Z0g2 _ _ hj,e] at this
  simp only [decide_eq_true_eq] at h2
  rw [h2] at this;simp at this
theorem Z0b9 {s:Sco} {x:Stp} {k:Clu} (h:CluOf s x k):firstC s.home.clusters x.key.cluster=some k:=by
 have:=h.part
 unfold partO at this
 split at this
 ·exact this
 ·cases this
theorem Z07o {v:Vw} {x:Stp} {k:Clu} (h:applyE k x.name (parX v x k) (bfrL v.items x.key.dev k k.attrs.length)=0):(aftL v x k).length=k.attrs.length:=by
 unfold aftL applyL
 rw [if_pos h,Z08p,Z09y]
theorem Z07q {v:Vw} {x:Stp} {k:Clu} (h:¬ applyE k x.name (parX v x k) (bfrL v.items x.key.dev k k.attrs.length)=0):(aftL v x k).length=0:=by
 unfold aftL applyL
 rw [if_neg h];rfl
set_option maxHeartbeats 4000000 in
theorem Z05d (s:Sco) (sc:List Scene) (v:Vw) (o:Out) (x:Stp) (c:Cause) (i:Int) (k:Clu) (hs:smallS s) (hv:smallV2 v) (hk:CluOf s x k) (hl:o.writes.length+k.attrs.length≤1048576) :
  AC Tryz.prog 289 [.pv (.agg (cStp x)),.ptr 900000 0,.pv (.agg (cOri c i))] (runIn s sc v o) (.pv (.tup [])) (runW s sc v o (o.writes ++ callW s v x c i)):=by
 have ek:cluX s x=k:=by unfold cluX;rw [hk.part];rfl
 have hsk:smallK k:=by rw [←ek];exact Z0tn hs.1
 have e0:callW s v x c i=chgTo v x k c i (aftL v x k).length:=by unfold callW chgTo;rw [ek]
 rw [e0]
 have hp:parX v x k=if (cmdOf k.commands x.name).param.kind≠0 then (evlE v x.expr).1 else noVal:=rfl
 have cD:=Z05e s.home x.key.cluster k hs.1 (Z0b9 hk)
 have cC:=Z007 k x.name hsk
 rw [decide_eq_true hk.cmd] at cC
 have hfull:=Z07o (v:=v) (x:=x) (k:=k)
 have hnone:=Z07q (v:=v) (x:=x) (k:=k)
 have cA0:=Z004 k x.name (parX v x k) (bfrL v.items x.key.dev k k.attrs.length) hsk (by show _≤_;rw [Z09y];exact hsk.1)
 change AC Tryz.prog _ _ _ (.pv (.tup [roL 3 cVal (aftL v x k),_])) _ at cA0
 have hcw:∀ j,chgW v x k c i j=if (aftL v x k).getD j default≠(bfrL v.items x.key.dev k k.attrs.length).getD j default then [⟨keyX x.key.dev k j,(aftL v x k).getD j default,c,i⟩] else []:=fun j=>rfl
 generalize applyE k x.name (parX v x k) (bfrL v.items x.key.dev k k.attrs.length)=ae at *
 generalize hL:aftL v x k=L at *
 clear hk ek
 generalize hn:k.attrs.length=n at *
 have hna:n≤1048576:=by omega
 have hdz:decide (0 < n)=true↔0 < n:=decide_eq_true_iff
 refine AC.of_awp_gen (T:=T) T_ok hm Tryz.call289 Tryz.func289 rfl rfl rfl rfl rfl rfl ?_
 conv=>whnf
 repeat (any_goals (first
  |(refine .inl ⟨_,cD,?_⟩;conv=>whnf)
  |(refine And.intro (show(_:Bool)=true from by kernel_rfl) ?_;conv=>whnf)))
 refine loop_k (ι:=Bool × Nat) [1,3,5,6,31,32] [3,5,6,900000,900001,900002,900003,900004] (fun y=>y.2≤n∧(y.1=true↔y.2 < n)) (fun y=>n - y.2) (decide (0 < n),0) (fun y=>match y.1 with
   |true=>[(7,.own 500),(33,.pv (vint y.2))]
   |false=>[(7,.pv (roL 3 cVal (bfrL v.items x.key.dev k n))),(33,.pv (vint y.2))])
  (fun y=>match y.1 with
   |true=>[(500,rowL 3 cVal (bfrL v.items x.key.dev k y.2))]
   |false=>[]) [] ⟨Nat.zero_le _,hdz⟩ ?_ (fun y hk=>?_)
 ·by_cases hz:0 < n
  ·rw [show decide (0 < n)=true from decide_eq_true hz]
   dsimp only
   (repeat' (first|exact PSub.rfl|exact rfl|exact PSubs.rfl|exact trivial|exact PSub.lit_sb rfl|refine And.intro ?_ ?_))
   all_goals (intro j hj;exact PSubs.rfl)
  ·rw [show decide (0 < n)=false from decide_eq_false hz]
   dsimp only
   (repeat' (first|exact PSub.rfl|exact rfl|exact PSubs.rfl|exact trivial|exact PSub.lit_sb rfl|refine And.intro ?_ ?_))
   all_goals first
    |(intro j hj;exact PSubs.rfl)
    |exact PSub.nilL (List.eq_nil_of_length_eq_zero (by rw [Z09y];omega))
 obtain⟨b,q⟩:=y
 obtain⟨hqn,hb⟩:=hk
 dsimp only at hqn hb
 cases b with
 |true=>
  have hq:q < n:=hb.1 rfl
  have hbl:=Z09y v.items x.key.dev k q
  have hbs:=Z09z v.items x.key.dev k q
  rw [Z09w] at hbs
  have hen:(k.attrs.getD q default).enum.length≤1048576:=hsk.2.1 q
  dsimp only
  conv=>whnf
  refine⟨fun h=>?_,fun h=>absurd (of_decide_eq_false h) (by omega)⟩
  conv=>whnf
  repeat (any_goals (first
   |(refine⟨fun(h:(_:Bool)=true)=>?_,fun(h:(_:Bool)=false)=>?_⟩<;>(try simp only [Q0,Q1,Q2,Q3,Q4,Q5,Q6,Q7,Q8,reduceCtorEq] at h)<;>(conv=>whnf))
   |(refine .inl ⟨_,Z00m v.items (keyX x.key.dev k q) hv.1,?_⟩;conv=>whnf)
   |(refine .inl ⟨_,Z07g (k.attrs.getD q default) hen,?_⟩;conv=>whnf)
   |(refine And.intro (by(try simp only [Int.toNat_natCast]);omega) ?_;conv=>whnf)
   |(refine And.intro (show(_:Bool)=true from by kernel_rfl) ?_;conv=>whnf)
   |(refine .inl ⟨wrap64 (by omega),?_⟩;conv=>whnf)))
  all_goals
   first|rw [if_neg h] at hbs|rw [if_pos h] at hbs
   by_cases hlast:q+1 < n
   ·refine⟨(true,q+1),[(500,63)],⟨by dsimp only;omega,by simp;omega⟩,by dsimp only;omega,?_⟩
    dsimp only
    rw [hbs]
    (repeat' (first|exact PSub.rfl|exact rfl|exact PSubs.rfl|exact trivial|exact PSub.lit_sb rfl|refine And.intro ?_ ?_))
    all_goals first
     |(intro j hj;exact PSubs.rfl)
     |(simp;done)
     |skip
    all_goals
     refine Z0qz (fun i hi=>by simp only [if_pos hi];exact PSubs.rfl) (by simp only [if_neg (Nat.lt_irrefl _),Nat.sub_self];exact PSubs.rfl)
   ·have hn1:n=q+1:=by omega
    have hall:roL 3 cVal (bfrL v.items x.key.dev k n)=roL 3 cVal (bfrL v.items x.key.dev k (q+1)):=by rw [hn1]
    refine⟨(false,q+1),[],⟨by dsimp only;omega,by simp;omega⟩,by dsimp only;omega,?_⟩
    dsimp only
    rw [hall,hbs]
    (repeat' (first|exact PSub.rfl|exact rfl|exact PSubs.rfl|exact trivial|exact PSub.lit_sb rfl|refine And.intro ?_ ?_))
    all_goals first
     |(intro j hj;exact PSubs.rfl)
     |skip
    all_goals
     conv=>whnf
     refine PSub.ro (by simp) (fun i hi=>?_)
     revert i
     rw [show(bfrL v.items x.key.dev k q).length+1=(bfrL v.items x.key.dev k q ++ [_]).length from by simp]
     refine Z0qz (fun i hi=>by simp only [if_pos hi];exact PSubs.rfl) (by simp only [if_neg (Nat.lt_irrefl _),Nat.sub_self];exact PSubs.rfl)
 |false=>
  have hq:q=n:=by
   have:¬ q < n:=fun h=>by have:=hb.2 h;cases this
   omega
  subst hq
  dsimp only
  conv=>whnf
  refine⟨fun h=>absurd (of_decide_eq_true h) (by omega),fun h=>?_⟩
  conv=>whnf
  repeat (any_goals (first
   |(refine⟨fun(h:(_:Bool)=true)=>?_,fun(h:(_:Bool)=false)=>?_⟩<;>(try simp only [Q0,Q1,Q2,Q3,Q4,Q5,Q6,Q7,Q8,reduceCtorEq] at h)<;>(conv=>whnf))
   |(refine .inl ⟨_,cC,?_⟩;conv=>whnf)
   |(refine .inl ⟨_,Z00u v x.expr hv,?_⟩;conv=>whnf)
   |(refine And.intro (show(_:Bool)=true from by kernel_rfl) ?_;conv=>whnf)))
  case' refine_2.false.refine_1.refine_1=>rw [hp,if_pos h] at cA0
  case' refine_2.false.refine_1.refine_2=>rw [hp,if_neg (fun y=>y h)] at cA0
  all_goals clear h
  all_goals
   repeat (any_goals (first
    |(refine⟨fun(h:(_:Bool)=true)=>?_,fun(h:(_:Bool)=false)=>?_⟩<;>(try simp only [Q0,Q1,Q2,Q3,Q4,Q5,Q6,Q7,Q8,reduceCtorEq] at h)<;>(conv=>whnf))
    |(refine .inl ⟨_,cA0,?_⟩;conv=>whnf)))
  case' refine_2.false.refine_1.refine_2.refine_1|refine_2.false.refine_1.refine_1.refine_1=>
   rw [hnone h,show chgTo v x k c i 0 = [] from rfl,List.append_nil]
   refine⟨rfl,[(1,900001)],?_⟩
   conv=>whnf
   (repeat' (first|exact PSub.rfl|exact rfl|exact PSubs.rfl|exact trivial|exact PSub.lit_sb rfl|refine And.intro ?_ ?_))
   all_goals (intro j hj;exact PSubs.rfl)
  all_goals
   have hLn:L.length=q:=hfull (by assumption)
   rw [hLn]
   refine loop_k (ι:=Nat) [1,3,5,6,7,16,104,105] [3,5,6] (fun j=>j≤q) (fun j=>q - j) 0 (fun j=>[(106,.pv (vint j))]) (fun j=>runL s sc v o (o.writes ++ chgTo v x k c i j)) [(501,900001)] (Nat.zero_le _) ?_ (fun j hj=>?_)
   ·rw [show o.writes ++ chgTo v x k c i 0=o.writes from by simp [chgTo]]
    conv=>whnf
    (repeat' (first|exact PSub.rfl|exact rfl|exact PSubs.rfl|exact trivial|exact PSub.lit_sb rfl|refine And.intro ?_ ?_))
    all_goals (intro j hj;exact PSubs.rfl)
   have hcl:=Z0ay v x k c i j
   have hal:(o.writes ++ chgTo v x k c i j).length=o.writes.length+(chgTo v x k c i j).length:=List.length_append
   have hcs:=Z0az v x k c i j
   rw [hcw] at hcs
   have hbl:=Z09y v.items x.key.dev k q
   have cw:=Z05h s sc v { o with writes:=o.writes ++ chgTo v x k c i j } (keyX x.key.dev k j) (L.getD j default) c i (by show _≤_;rw [hal];omega)
   conv=>whnf
   repeat (any_goals (first
    |(refine⟨fun(h:(_:Bool)=true)=>?_,fun(h:(_:Bool)=false)=>?_⟩<;>(try simp only [Q0,Q1,Q2,Q3,Q4,Q5,Q6,Q7,Q8,reduceCtorEq] at h)<;>(conv=>whnf))
    |(refine .inr (.inr (.inr (.inr ⟨[(900000,900000),(900001,501),(900002,900002),(900003,900003),(900004,900004)],[(1,701)],_,_,_,cw,rfl,?_⟩)));conv=>whnf)
    |(refine And.intro (by(try simp only [Int.toNat_natCast]);omega) ?_;conv=>whnf)
    |(refine And.intro (show(_:Bool)=true from by kernel_rfl) ?_;conv=>whnf)
    |(refine .inl ⟨wrap64 (by omega),?_⟩;conv=>whnf)))
   ·have e:=of_decide_eq_false ((Z0yq _ _).symm.trans h)
    rw [if_pos e] at hcs
    refine⟨j+1,[(501,701)],by omega,by omega,?_⟩
    rw [hcs,←List.append_assoc]
    conv=>whnf
    (repeat' (first|exact PSub.rfl|exact rfl|exact PSubs.rfl|exact trivial|exact PSub.lit_sb rfl|refine And.intro ?_ ?_))
    all_goals (intro j hj;exact PSubs.rfl)
   ·have e:=of_decide_eq_true ((Z0yq _ _).symm.trans h)
    rw [if_neg (fun y=>y e),List.append_nil] at hcs
    refine⟨j+1,[],by omega,by omega,?_⟩
    rw [hcs]
    conv=>whnf
    (repeat' (first|exact PSub.rfl|exact rfl|exact PSubs.rfl|exact trivial|exact PSub.lit_sb rfl|refine And.intro ?_ ?_))
    all_goals (intro j hj;exact PSubs.rfl)
   ·have e2:j=q:=by omega
    rw [e2]
    refine⟨rfl,[(1,501)],?_⟩
    conv=>whnf
    (repeat' (first|exact PSub.rfl|exact rfl|exact PSubs.rfl|exact trivial|exact PSub.lit_sb rfl|refine And.intro ?_ ?_))
    all_goals (intro j hj;exact PSubs.rfl)
end Go.Abs
namespace Go.Abs
open Go.Proofs
set_option maxRecDepth 10000
theorem Z0db (v:Vw) (e:Ex):valE (evlE v e).1=0:=by
 have hok:exE e=0→okN e:=fun h=>((Z0dd e).1 h).1
 unfold evlE
 by_cases h:exE e=0
 ·rw [if_neg (fun x=>x h)]
  unfold fndV
  split
  ·rfl
  ·exact evR_ok v (hok h)
 ·rw [if_pos h];rfl
theorem Z0ya (v:Vw) (e:Ex):truE v e=((evlE v e).2 && (decide ((evlE v e).1.kind=1) && decide ((evlE v e).1.n=1))):=by
 unfold truE
 have h:=Z0db v e
 generalize (evlE v e).1=x at *
 congr 1
 rw [Bool.eq_iff_iff]
 simp only [decide_eq_true_eq,Bool.and_eq_true]
 constructor
 ·rintro rfl;exact⟨rfl,rfl⟩
 ·rintro ⟨h1,h2⟩
  rcases Z0yk h h1 with e|e
  ·exact e
  ·rw [e] at h2;cases h2
theorem Z00v (v:Vw) (e:Ex) (hv:smallV2 v):AC Tryz.prog 27 [.pv (.agg (cVw v)),.pv (.agg (cEx e))] [] (.pv (vbool (truE v e))) []:=by
 rw [Z0ya]
 refine AC.of_awp (T:=T) T_ok hm Tryz.call27 Tryz.func27 rfl rfl rfl ?_
 conv=>whnf
 repeat (any_goals (first
  |(refine⟨fun(h:(_:Bool)=true)=>?_,fun(h:(_:Bool)=false)=>?_⟩<;>(try simp only [Q0,Q1,Q2,Q3,Q4,Q5,Q6,Q7,Q8,reduceCtorEq] at h)<;>(conv=>whnf))
  |(refine .inl ⟨_,Z00u v e hv,?_⟩;conv=>whnf)))
 all_goals first
  |(refine PSub.sb ?_;simp_all;done)
  |(refine PSub.lit_sb ?_;simp_all;done)
theorem Z01s (l:List ByteArray) (hl:l.length≤1048576):AC Tryz.prog 31 [.pv (roL 1 cstr l)] [] (.pv (roL 1 cstr (sortS l))) []:=by
 refine AC.of_awp (T:=T) T_ok hm Tryz.call31 Tryz.func31 rfl rfl rfl ?_
 conv=>whnf
 refine .inr (.inl ⟨_,_,_,Z05t l.length (fun i=>cstr (l.getD i default)) hl,?_⟩)
 conv=>whnf
 refine .inr (.inr (.inl ⟨_,_,Z06d l (by omega),?_⟩))
 conv=>whnf
 refine .inr (.inr (.inr (.inl ⟨_,_,_,Z05u (sortedS l) (by rw [Z0uc];omega),?_⟩)))
 conv=>whnf
 rw [Z0uc,Z0bp]
 exact .rfl
theorem Z09x (w:Write):∀ (l:List Write) (b:Write),bestW b (l ++ [w])=if befW w (bestW b l)=true then w else bestW b l
 | [],_=>rfl
 |x :: l,b=>by rw [List.cons_append,bestW,bestW,Z09x w l]
def bwL (l:List Write) (k:Nat):Write:=bestW (l.getD 0 default) ((l.drop 1).take k)
theorem Z0af {l:List Write} {k:Nat} (h:1+k < l.length):bwL l (k+1)=if befW (l.getD (1+k) default) (bwL l k)=true then l.getD (1+k) default else bwL l k:=by
 unfold bwL
 have e:(l.drop 1).getD k default=l.getD (1+k) default:=by simp [List.getD,Nat.add_comm]
 rw [Z0xx (by rw [List.length_drop];omega),e]
 exact Z09x _ _ _
theorem Z0lg {l:List Write} {s:ByteArray} (h:0 < l.length):modeT l s=(bwL l (l.length - 1)).value.s:=by
 cases l with
 |nil=>simp at h
 |cons w l=>
  unfold modeT bwL
  simp
theorem Z05a (o:Out) (s:ByteArray) (ho:smallL o.modes):AC Tryz.prog 14 [.pv (.agg (cOut o)),.pv (vstr s)] [] (.pv (vstr (modeT o.modes s))) []:=by
 have hl:o.modes.length≤1048576:=ho
 refine AC.of_awp (T:=T) T_ok hm Tryz.call14 Tryz.func14 rfl rfl rfl ?_
 conv=>whnf
 repeat (any_goals (first
  |(refine⟨fun(h:(_:Bool)=true)=>?_,fun(h:(_:Bool)=false)=>?_⟩<;>(try simp only [Q0,Q1,Q2,Q3,Q4,Q5,Q6,Q7,Q8,reduceCtorEq] at h)<;>(conv=>whnf))
  |(refine And.intro (by(try simp only [Int.toNat_natCast]);omega) ?_;conv=>whnf)))
 ·rw [List.eq_nil_of_length_eq_zero (l:=o.modes) (by omega)]
  exact .rfl
 rw [Z0lg (by omega)]
 generalize o.modes=l at *
 refine loop_k (ι:=Nat) [19,20] [] (fun k=>k≤l.length - 1) (fun k=>l.length - 1 - k) 0 (fun k=>[(5,.ptr 5 0),(21,.pv (vint k))]) (fun k=>[(5,.pbox (cWrite (bwL l k)))]) [] (Nat.zero_le _) ?_ (fun k hk=>?_)
 ·(repeat' (first|exact PSub.rfl|exact rfl|exact PSubs.rfl|exact trivial|exact PSub.lit_sb rfl|refine And.intro ?_ ?_))
  all_goals exact PSubs.rfl
 conv=>whnf
 have hs:=Z0af (l:=l) (k:=k)
 refine⟨fun h=>?_,fun h=>?_⟩<;>(try simp only [Q0,Q1,Q2,Q3,Q4,Q5,Q6,Q7,Q8,reduceCtorEq] at h)<;>(conv=>whnf)
 ·have hk2:1+k < l.length:=by omega
  replace hs:=hs hk2
  repeat (any_goals (first
   |(refine⟨fun(h:(_:Bool)=true)=>?_,fun(h:(_:Bool)=false)=>?_⟩<;>(try simp only [Q0,Q1,Q2,Q3,Q4,Q5,Q6,Q7,Q8,reduceCtorEq] at h)<;>(conv=>whnf))
   |(refine .inl ⟨_,Z054 (l.getD (1+k) default) (bwL l k),?_⟩;conv=>whnf)
   |(refine And.intro (by(try simp only [Int.toNat_natCast]);omega) ?_;conv=>whnf)
   |(refine .inl ⟨wrap64 (by omega),?_⟩;conv=>whnf)))
  all_goals
   refine⟨k+1,[],by omega,by omega,?_⟩
   first|rw [if_pos h] at hs|rw [if_neg (by rw [h];exact Bool.false_ne_true)] at hs
   rw [hs]
   (repeat' (first|exact PSub.rfl|exact rfl|exact PSubs.rfl|exact trivial|exact PSub.lit_sb rfl|refine And.intro ?_ ?_))
   all_goals first
    |exact PSubs.rfl
    |skip
 ·have e:k=l.length - 1:=by omega
  subst e
  conv=>whnf
  exact .rfl
end Go.Abs
namespace Go.Abs
open Go.Proofs
set_option maxRecDepth 10000
def actI (x:Stp):List PV:=[.ifc (if x.kind=1 then 135 else if x.kind=2 then 136 else if x.kind=3 then 137 else if x.kind=4 then 138 else 139) (.agg (cStp x))]
theorem act_1 {x:Stp} (h:x.kind=1):actI x = [.ifc 135 (.agg (cStp x))]:=by unfold actI;rw [if_pos h]
theorem act_2 {x:Stp} (h:x.kind=2):actI x = [.ifc 136 (.agg (cStp x))]:=by unfold actI;rw [if_neg (by omega),if_pos h]
theorem act_3 {x:Stp} (h:x.kind=3):actI x = [.ifc 137 (.agg (cStp x))]:=by unfold actI;rw [if_neg (by omega),if_neg (by omega),if_pos h]
theorem act_4 {x:Stp} (h:x.kind=4):actI x = [.ifc 138 (.agg (cStp x))]:=by unfold actI;rw [if_neg (by omega),if_neg (by omega),if_neg (by omega),if_pos h]
theorem act_5 {x:Stp} (h1:¬ x.kind=1) (h2:¬ x.kind=2) (h3:¬ x.kind=3) (h4:¬ x.kind=4):actI x = [.ifc 139 (.agg (cStp x))]:=by unfold actI;rw [if_neg h1,if_neg h2,if_neg h3,if_neg h4]
set_option maxHeartbeats 1000000 in
theorem Z05c (l:List Stp) (hl:smallL l):AC Tryz.prog 28 [.pv (roL 16 cStp l)] [] (.pv (roL 1 actI l)) []:=by
 have hl:l.length≤1048576:=hl
 refine AC.of_awp (T:=T) T_ok hm Tryz.call28 Tryz.func28 rfl rfl rfl ?_
 conv=>whnf
 refine loop_k (ι:=Nat) [6,7] [] (fun k=>k≤l.length∧True) (fun k=>l.length - k) 0 (fun k=>[(3,.own 500),(8,.pv (vint k))]) (fun k=>[(500,rowL 1 actI (l.take k))]) [] ⟨Nat.zero_le _,trivial⟩ ?_ (fun k hk=>?_)
 ·(repeat' (first|exact PSub.rfl|exact rfl|exact PSubs.rfl|exact trivial|exact PSub.lit_sb rfl|refine And.intro ?_ ?_));all_goals ((intro i hi;exact absurd hi (by simp)))
 obtain⟨hkn,hinv⟩:=hk
 conv=>whnf
 refine⟨fun h=>?_,fun h=>?_⟩<;>(try simp only [Q0,Q1,Q2,Q3,Q4,Q5,Q6,Q7,Q8,reduceCtorEq] at h)<;>(conv=>whnf)
 ·have hk:k < l.length:=by omega
  have hsn:=Z0xx (l:=l) hk
  have hlen:(l.take k).length=k:=by rw [List.length_take];omega
  repeat (any_goals (first
   |(refine⟨fun(h:(_:Bool)=true)=>?_,fun(h:(_:Bool)=false)=>?_⟩<;>(try simp only [Q0,Q1,Q2,Q3,Q4,Q5,Q6,Q7,Q8,reduceCtorEq] at h)<;>(conv=>whnf))
   |(refine And.intro (by(try simp only [Int.toNat_natCast]);omega) ?_;conv=>whnf)
   |(refine .inl ⟨wrap64 (by omega),?_⟩;conv=>whnf)))
  ·refine⟨k+1,[(500,27)],⟨by omega,trivial⟩,by omega,?_⟩
   have ha:=(act_1 h)
   rw [hsn]
   (repeat' (first|exact PSub.rfl|exact rfl|exact PSubs.rfl|exact trivial|exact PSub.lit_sb rfl|refine And.intro ?_ ?_))
   all_goals first
    |(simp;done)
    |skip
   all_goals
    refine Z0qz (fun i hi=>by simp only [if_pos hi];exact PSubs.rfl) ?_
    simp only [if_neg (Nat.lt_irrefl _),Nat.sub_self]
    rw [ha]
    exact PSubs.rfl
  ·refine⟨k+1,[(500,35)],⟨by omega,trivial⟩,by omega,?_⟩
   have ha:=(act_2 h)
   rw [hsn]
   (repeat' (first|exact PSub.rfl|exact rfl|exact PSubs.rfl|exact trivial|exact PSub.lit_sb rfl|refine And.intro ?_ ?_))
   all_goals first
    |(simp;done)
    |skip
   all_goals
    refine Z0qz (fun i hi=>by simp only [if_pos hi];exact PSubs.rfl) ?_
    simp only [if_neg (Nat.lt_irrefl _),Nat.sub_self]
    rw [ha]
    exact PSubs.rfl
  ·refine⟨k+1,[(500,43)],⟨by omega,trivial⟩,by omega,?_⟩
   have ha:=(act_3 h)
   rw [hsn]
   (repeat' (first|exact PSub.rfl|exact rfl|exact PSubs.rfl|exact trivial|exact PSub.lit_sb rfl|refine And.intro ?_ ?_))
   all_goals first
    |(simp;done)
    |skip
   all_goals
    refine Z0qz (fun i hi=>by simp only [if_pos hi];exact PSubs.rfl) ?_
    simp only [if_neg (Nat.lt_irrefl _),Nat.sub_self]
    rw [ha]
    exact PSubs.rfl
  ·refine⟨k+1,[(500,51)],⟨by omega,trivial⟩,by omega,?_⟩
   have ha:=(act_4 h)
   rw [hsn]
   (repeat' (first|exact PSub.rfl|exact rfl|exact PSubs.rfl|exact trivial|exact PSub.lit_sb rfl|refine And.intro ?_ ?_))
   all_goals first
    |(simp;done)
    |skip
   all_goals
    refine Z0qz (fun i hi=>by simp only [if_pos hi];exact PSubs.rfl) ?_
    simp only [if_neg (Nat.lt_irrefl _),Nat.sub_self]
    rw [ha]
    exact PSubs.rfl
  ·refine⟨k+1,[(500,19)],⟨by omega,trivial⟩,by omega,?_⟩
   have ha:=(act_5 (by assumption) (by assumption) (by assumption) h)
   rw [hsn]
   (repeat' (first|exact PSub.rfl|exact rfl|exact PSubs.rfl|exact trivial|exact PSub.lit_sb rfl|refine And.intro ?_ ?_))
   all_goals first
    |(simp;done)
    |skip
   all_goals
    refine Z0qz (fun i hi=>by simp only [if_pos hi];exact PSubs.rfl) ?_
    simp only [if_neg (Nat.lt_irrefl _),Nat.sub_self]
    rw [ha]
    exact PSubs.rfl
 ·have e:k=l.length:=by omega
  subst e
  rw [List.take_length]
  exact .rfl
end Go.Abs
namespace Go.Abs
open Go.Proofs
theorem Z0sz (s:Sco) (v:Vw) (x:Stp) (c:Cause) (i:Int):(setW s v x c i).length≤1:=by
 unfold setW;split<;>simp
theorem Z0sj (s:Sco) (sc:List Scene) (x:Stp) (c:Cause) (i:Int):(sceW s sc x c i).length≤256:=by
 unfold sceW
 split
 ·rename_i h
  have hc:=h.2
  unfold checkS at hc
  split at hc
  ·contradiction
  split at hc
  ·cases hc
  split at hc
  ·cases hc
  ·rw [List.length_map]
   have:(applyS (findS sc x.name) c (findS sc x.name).items.length).length≤(findS sc x.name).items.length:=by simp [applyS]
   omega
 ·simp
theorem Z0an {s:Sco} {v:Vw} {x:Stp} {c:Cause} {i:Int} {k:Clu} (h:CluOf s x k):(callW s v x c i).length≤12:=by
 have ek:cluX s x=k:=by unfold cluX;rw [h.part];rfl
 have e:callW s v x c i=chgTo v x k c i (aftL v x k).length:=by unfold callW chgTo;rw [ek]
 rw [e]
 have h1:=Z0ay v x k c i (aftL v x k).length
 have h2:=Z07p v x k
 have h3:=h.chk.attrs
 omega
theorem Z0x8 {s:Sco} {sc:List Scene} {v:Vw} {c:Cause} {x:Stp} {i:Int} (h:doE s x=0):(stpW s sc v c x i).length≤256:=by
 unfold stpW
 split
 ·have:=Z0sz s v x c i;omega
 split
 ·obtain⟨k,hk⟩:=clu_of ‹_› h
  have:=Z0an (v:=v) (c:=c) (i:=i) hk;omega
 split
 ·exact Z0sj s sc x c i
 ·simp
theorem Z0r8 (s:Sco) (sc:List Scene) (v:Vw) (r:Rul) (n:Nat):rulW s sc v r (n+1)=rulW s sc v r n ++ stpW s sc v (cauR r) (r.steps.getD n default) n:=by
 unfold rulW;rw [List.range_succ,List.flatMap_append];simp
theorem Z0r3 (r:Rul) (n:Nat):rulM r (n+1)=rulM r n ++ stpM (cauR r) (r.steps.getD n default) n:=by
 unfold rulM;rw [List.range_succ,List.flatMap_append];simp
theorem Z0r5 (r:Rul) (n:Nat):rulN r (n+1)=rulN r n ++ stpN (cauR r) (r.steps.getD n default):=by
 unfold rulN;rw [List.range_succ,List.flatMap_append];simp
theorem Z0r7 {s:Sco} {sc:List Scene} {v:Vw} {r:Rul} (h:ruleE s r=0):∀ n,n≤r.steps.length→(rulW s sc v r n).length≤256 * n
 |0,_=>by simp [rulW]
 |n+1,hn=>by
  rw [Z0r8,List.length_append]
  have h1:=Z0r7 (sc:=sc) (v:=v) h n (by omega)
  have h2:=Z0x8 (sc:=sc) (v:=v) (c:=cauR r) (i:=n) ((Z0r9 h).2.2.2 n (by omega))
  omega
theorem Z0r2 (r:Rul):∀ n,(rulM r n).length≤n
 |0=>by simp [rulM]
 |n+1=>by
  rw [Z0r3,List.length_append]
  have:=Z0r2 r n
  have h2:(stpM (cauR r) (r.steps.getD n default) n).length≤1:=by unfold stpM;split<;>simp
  omega
theorem Z0r4 (r:Rul):∀ n,(rulN r n).length≤n
 |0=>by simp [rulN]
 |n+1=>by
  rw [Z0r5,List.length_append]
  have:=Z0r4 r n
  have h2:(stpN (cauR r) (r.steps.getD n default)).length≤1:=by unfold stpN;split<;>simp
  omega
def rawO (s:Sco) (sc:List Scene) (v:Vw) (l:List Rul):Out:=⟨allW s sc v l,allM l,l.map Rul.name,allN l⟩
def rawK (s:Sco) (sc:List Scene) (v:Vw) (h:Hap) (l:List Rul) (k:Nat):Out:=rawO s sc v (ranL v h (l.take k))
def rawJ (s:Sco) (sc:List Scene) (v:Vw) (o:Out) (r:Rul) (j:Nat):Out:=⟨o.writes ++ rulW s sc v r j,o.modes ++ rulM r j,o.ran ++ [r.name],o.notes ++ rulN r j⟩
theorem Z0pg {s:Sco} {sc:List Scene} {v:Vw} {h:Hap} {l:List Rul} {k:Nat} (hk:k < l.length) (hr:ranB v h (l.getD k default)=false):rawK s sc v h l (k+1)=rawK s sc v h l k:=by
 unfold rawK ranL
 rw [Z0xx hk,List.filter_append]
 simp [hr,-List.getD_eq_getElem?_getD]
theorem Z0ph {s:Sco} {sc:List Scene} {v:Vw} {h:Hap} {l:List Rul} {k:Nat} (hk:k < l.length) (hr:ranB v h (l.getD k default)=true):rawK s sc v h l (k+1)=rawJ s sc v (rawK s sc v h l k) (l.getD k default) (l.getD k default).steps.length:=by
 unfold rawK ranL rawJ rawO allW allM allN
 rw [Z0xx hk,List.filter_append]
 simp [hr,-List.getD_eq_getElem?_getD]
structure lenO (o:Out) (k:Nat):Prop where
 w:o.writes.length≤2048 * k
 m:o.modes.length≤8 * k
 r:o.ran.length≤k
 n:o.notes.length≤8 * k
theorem Z0pd {s:Sco} {sc:List Scene} {v:Vw} {o:Out} {r:Rul} {j k:Nat} (h:lenO o k) (hr:ruleE s r=0) (hj:j≤r.steps.length):lenO (rawJ s sc v o r j) (k+1):=by
 have h8:=(Z0r0 (Z0r9 hr).1).2
 have h1:=Z0r7 (sc:=sc) (v:=v) hr j hj
 have h2:=Z0r2 r j
 have h3:=Z0r4 r j
 refine⟨?_,?_,?_,?_⟩
 ·have:=h.w;simp only [rawJ,List.length_append];omega
 ·have:=h.m;simp only [rawJ,List.length_append];omega
 ·have:=h.r;simp only [rawJ,List.length_append,List.length_singleton];omega
 ·have:=h.n;simp only [rawJ,List.length_append];omega
theorem Z0pf {s:Sco} {sc:List Scene} {v:Vw} {h:Hap} {l:List Rul} (hr:∀ r ∈ l,ruleE s r=0):∀ k,k≤l.length→lenO (rawK s sc v h l k) k
 |0,_=>⟨by simp [rawK,rawO,allW,ranL],by simp [rawK,rawO,allM,ranL],by simp [rawK,rawO,ranL],by simp [rawK,rawO,allN,ranL]⟩
 |k+1,hk=>by
  have ih:=Z0pf (sc:=sc) (v:=v) (h:=h) hr k (by omega)
  cases e:ranB v h (l.getD k default) with
  |false=>
   rw [Z0pg (by omega) e]
   have a:=ih.w;have b:=ih.m;have c:=ih.r;have d:=ih.n
   exact⟨by omega,by omega,by omega,by omega⟩
  |true=>
   rw [Z0ph (by omega) e]
   exact Z0pd ih (hr _ (by rw [Z0g2 _ _ (show k < l.length by omega)];exact List.getElem_mem _)) (Nat.le_refl _)
theorem Z0rh (s:Sco) (sc:List Scene) (v:Vw) (h:Hap) (l:List Rul):runO s sc v h l=⟨isortR ordW (rawK s sc v h l l.length).writes,isortR ordW (rawK s sc v h l l.length).modes,sortS (rawK s sc v h l l.length).ran,sortS (rawK s sc v h l l.length).notes⟩:=by
 unfold rawK
 rw [List.take_length];rfl
theorem Z0wy {r:Rul} (h:rulE r=0) {i:Nat} (hi:i < r.steps.length):r.name.size≤24∧((r.steps.getD i default).kind=5→(r.steps.getD i default).name.size≤60):=by
 constructor
 ·have h1:validName r.name=true:=by
   cases e:validName r.name with
   |true=>rfl
   |false=>unfold rulE at h;rw [if_pos e] at h;cases h
  exact(validName_iff.1 h1).2.1
 ·intro hk
  have hs:=Z0r1 h i hi
  unfold stpE at hs
  rw [if_neg (by omega),if_neg (by omega),if_pos (by omega)] at hs
  split at hs
  ·cases hs
  ·try rw [if_pos hk] at hs
   split at hs
   ·cases hs
   ·omega
theorem Z0w4 {r:Rul} (h:rulE r=0) {i:Nat} (hi:i < r.steps.length):(r.steps.getD i default).kind=1∨(r.steps.getD i default).kind=2∨(r.steps.getD i default).kind=3∨(r.steps.getD i default).kind=4∨(r.steps.getD i default).kind=5:=by
 have hs:=Z0r1 h i hi
 unfold stpE at hs
 by_cases h1:(r.steps.getD i default).kind=1
 ·exact .inl h1
 by_cases h2:(r.steps.getD i default).kind=2
 ·exact .inr (.inl h2)
 by_cases h3:(r.steps.getD i default).kind=3∨(r.steps.getD i default).kind=4∨(r.steps.getD i default).kind=5
 ·exact .inr (.inr h3)
 ·rw [if_neg h1,if_neg h2,if_neg h3] at hs;cases hs
theorem stp_1 {s:Sco} {sc:List Scene} {v:Vw} {c:Cause} {x:Stp} {i:Int} (h:x.kind=1):stpW s sc v c x i=setW s v x c i∧stpM c x i = []∧stpN c x = []:=
 ⟨by unfold stpW;rw [if_pos h],by unfold stpM;rw [if_neg (by omega)],by unfold stpN;rw [if_neg (by omega)]⟩
theorem stp_2 {s:Sco} {sc:List Scene} {v:Vw} {c:Cause} {x:Stp} {i:Int} (h:x.kind=2):stpW s sc v c x i=callW s v x c i∧stpM c x i = []∧stpN c x = []:=
 ⟨by unfold stpW;rw [if_neg (by omega),if_pos h],by unfold stpM;rw [if_neg (by omega)],by unfold stpN;rw [if_neg (by omega)]⟩
theorem stp_3 {s:Sco} {sc:List Scene} {v:Vw} {c:Cause} {x:Stp} {i:Int} (h:x.kind=3):stpW s sc v c x i=sceW s sc x c i∧stpM c x i = []∧stpN c x = []:=
 ⟨by unfold stpW;rw [if_neg (by omega),if_neg (by omega),if_pos h],by unfold stpM;rw [if_neg (by omega)],by unfold stpN;rw [if_neg (by omega)]⟩
theorem stp_4 {s:Sco} {sc:List Scene} {v:Vw} {c:Cause} {x:Stp} {i:Int} (h:x.kind=4):stpW s sc v c x i = []∧stpM c x i = [⟨noKey,⟨4,0,x.name⟩,c,i⟩]∧stpN c x = []:=
 ⟨by unfold stpW;rw [if_neg (by omega),if_neg (by omega),if_neg (by omega)],by unfold stpM;rw [if_pos h],by unfold stpN;rw [if_neg (by omega)]⟩
theorem stp_5 {s:Sco} {sc:List Scene} {v:Vw} {c:Cause} {x:Stp} {i:Int} (h:x.kind=5):stpW s sc v c x i = []∧stpM c x i = []∧stpN c x = [c.name ++ (⟨#[58,32]⟩:ByteArray) ++ x.name]:=
 ⟨by unfold stpW;rw [if_neg (by omega),if_neg (by omega),if_neg (by omega)],by unfold stpM;rw [if_neg (by omega)],by unfold stpN;rw [if_pos h]⟩
end Go.Abs
namespace Go.Abs
open Go.Proofs
set_option maxRecDepth 10000
def runH (s:Sco) (sc:List Scene) (v:Vw) (o:Out):List (Nat × AObj):=[(40,runB s sc v 501 502 503 504),(501,rowL 10 cWrite o.writes),(502,rowL 10 cWrite o.modes),(503,rowL 1 cstr o.ran),(504,rowL 1 cstr o.notes)]
def runJ (s:Sco) (sc:List Scene) (v:Vw) (o:Out):List (Nat × AObj):=[(40,runB s sc v 511 512 513 514),(511,rowL 10 cWrite o.writes),(512,rowL 10 cWrite o.modes),(513,rowL 1 cstr o.ran),(514,rowL 1 cstr o.notes)]
def wrD:PV→Write
 | .agg [.val (.int _ d),.val (.string c),.val (.string a),.val (.int _ k),.val (.int _ n),.val (.string s),.val (.int _ e),.val (.string f),.val (.int _ g),.val (.int _ o)]=>⟨⟨d,c,a⟩,⟨k,n,s⟩,⟨e,f,g⟩,o⟩
 |_=>default
def ordG:List PV→Int:=fun xs=>cmpW (wrD (xs.getD 0 .cap0)) (wrD (xs.getD 1 .cap0))
theorem Z024 (a b:Write):AC Tryz.prog 30 [.pv (.agg (cWrite a)),.pv (.agg (cWrite b))] [] (.pv (vint (ordG [.agg (cWrite a),.agg (cWrite b)]))) []:=Z05g a b
theorem Z06i (l:List Write) (hl:l.length≤1048576):AC Tryz.prog 29 [.own 900000,.fn 30 []] [(900000,rowL 10 cWrite l)] (.pv (.tup [])) [(900000,rowL 10 cWrite (isortR ordW l))]:=
 Z06c 30 Tryz.call30 ordG ordW Z0xe (fun a b=>Z0bj a b) Z024 l hl
theorem Z0tf {α:Type} {l:List α} (h:l.length≤1048576):smallL l:=h
set_option maxHeartbeats 4000000 in
theorem Z05b (s:Sco) (sc:List Scene) (v:Vw) (p:Hap) (l:List Rul) (hs:smallS s) (hsc:smallL sc) (hsi:∀ i,i < sc.length→smallL (sc.getD i default).items) (hv:smallV2 v) (hp:smallHp p) :
  AC Tryz.prog 11 [.pv (.agg (cSco s)),.pv (roL 2 cSce sc),.pv (roL 15 cRul l),.pv (.agg (cVw v)),.pv (.agg (cHap p))] [] (.pv (.tup [.agg (cOut (runR s sc v p l)),vint (runE s l)])) []:=by
 refine AC.of_awp (T:=T) T_ok hm Tryz.call11 Tryz.func11 rfl rfl rfl ?_
 conv=>whnf
 repeat (any_goals (first
  |(refine⟨fun(h:(_:Bool)=true)=>?_,fun(h:(_:Bool)=false)=>?_⟩<;>(try simp only [Q0,Q1,Q2,Q3,Q4,Q5,Q6,Q7,Q8,reduceCtorEq] at h)<;>(conv=>whnf))
  |(refine .inl ⟨_,Z06y s hs,?_⟩;conv=>whnf)
  |(refine .inl ⟨_,Z071 s l hs,?_⟩;conv=>whnf)))
 ·rw [runR,if_neg (by rw [runE,if_pos h];exact h),runE,if_pos h]
  refine⟨?_,?_⟩<;>(conv=>whnf)
  ·repeat' (first|exact PSub.rfl|exact PSub.nil_ro _ _|exact PSub.lit_sb rfl|exact trivial|exact Z085|refine PSub.agg ?_|refine PSub.ro rfl ?_|refine Z084 ?_ ?_|refine And.intro ?_ ?_)
  ·repeat' (first|exact PSub.rfl|exact PSub.nil_ro _ _|exact PSub.lit_sb rfl|exact trivial|exact Z085|refine PSub.agg ?_|refine PSub.ro rfl ?_|refine Z084 ?_ ?_|refine And.intro ?_ ?_)
 ·have e0:runE s l=(rulesE s l).2:=by rw [runE,if_neg (fun x=>x (by assumption))]
  rw [runR,if_neg (by rw [e0];exact h),e0]
  refine⟨?_,?_⟩<;>(conv=>whnf)
  ·repeat' (first|exact PSub.rfl|exact PSub.nil_ro _ _|exact PSub.lit_sb rfl|exact trivial|exact Z085|refine PSub.agg ?_|refine PSub.ro rfl ?_|refine Z084 ?_ ?_|refine And.intro ?_ ?_)
  ·repeat' (first|exact PSub.rfl|exact PSub.nil_ro _ _|exact PSub.lit_sb rfl|exact trivial|exact Z085|refine PSub.agg ?_|refine PSub.ro rfl ?_|refine Z084 ?_ ?_|refine And.intro ?_ ?_)
 have he:runE s l=0:=Z0rf (by assumption) h
 have ok:=(Z0rd s l).1 h
 have h40:=ok.1
 have hok:∀ k,k < l.length→ruleE s (l.getD k default)=0:=fun k hk=>ok.2.1 _ (by rw [Z0g2 _ _ hk];exact List.getElem_mem _)
 rw [runR,if_pos he,Z0rh,he]
 have hlen:=Z0pf (s:=s) (sc:=sc) (v:=v) (h:=p) ok.2.1
 have hno:=fun k hk=>Z0pg (s:=s) (sc:=sc) (v:=v) (h:=p) (l:=l) (k:=k) hk
 have hyes:=fun k hk=>Z0ph (s:=s) (sc:=sc) (v:=v) (h:=p) (l:=l) (k:=k) hk
 have h00:rawK s sc v p l 0=noOut:=by unfold rawK rawO ranL allW allM allN;simp;rfl
 generalize rawK s sc v p l=R at *
 refine loop_k (ι:=Nat) [8,9,10,15,41,42] [8,9,10] (fun k=>k≤l.length) (fun k=>l.length - k) 0 (fun k=>[(43,.pv (vint k))]) (fun k=>runH s sc v (R k)) [] (Nat.zero_le _) ?_ (fun k hk=>?_)
 ·rw [h00]
  (repeat' (first|exact PSub.rfl|exact rfl|exact PSubs.rfl|exact trivial|exact PSub.lit_sb rfl|refine And.intro ?_ ?_))
  all_goals (intro j hj;exact absurd hj (by simp [noOut]))
 have hl0:=hlen k hk
 have hlw:=hl0.w
 have hlm:=hl0.m
 have hlr:=hl0.r
 have hln:=hl0.n
 conv=>whnf
 refine⟨fun h=>?_,fun h=>?_⟩<;>(try simp only [Q0,Q1,Q2,Q3,Q4,Q5,Q6,Q7,Q8,reduceCtorEq] at h)<;>(conv=>whnf)
 ·have hk2:k < l.length:=by omega
  have hr:=hok k hk2
  have hlens:=Z0r0 (Z0r9 hr).1
  replace hno:=hno k hk2
  replace hyes:=hyes k hk2
  have hb:∀ b,ranB v p (l.getD k default)=b↔(anyB (l.getD k default) p && truE v (l.getD k default).cond)=b:=fun b=>Iff.rfl
  generalize R k=o at *
  repeat (any_goals (first
   |(refine⟨fun(h:(_:Bool)=true)=>?_,fun(h:(_:Bool)=false)=>?_⟩<;>(try simp only [Q0,Q1,Q2,Q3,Q4,Q5,Q6,Q7,Q8,reduceCtorEq] at h)<;>(conv=>whnf))
   |(refine .inl ⟨_,Z06k (l.getD k default) p (Z0tf (by omega)) hp,?_⟩;conv=>whnf)
   |(refine .inl ⟨_,Z00v v (l.getD k default).cond hv,?_⟩;conv=>whnf)
   |(refine .inl ⟨_,Z05c (l.getD k default).steps (Z0tf (by omega)),?_⟩;conv=>whnf)
   |(refine And.intro (by(try simp only [Int.toNat_natCast]);omega) ?_;conv=>whnf)
   |(refine And.intro (show(_:Bool)=true from by kernel_rfl) ?_;conv=>whnf)
   |(refine .inl ⟨wrap64 (by omega),?_⟩;conv=>whnf)))
  ·refine⟨k+1,[],by omega,by omega,?_⟩
   rw [hno ((hb false).2 (by rw [h];rfl))]
   (repeat' (first|exact PSub.rfl|exact rfl|exact PSubs.rfl|exact trivial|exact PSub.lit_sb rfl|refine And.intro ?_ ?_))
   all_goals (intro j hj;exact PSubs.rfl)
  ·refine⟨k+1,[],by omega,by omega,?_⟩
   rw [hno ((hb false).2 (by rw [h,Bool.and_false]))]
   (repeat' (first|exact PSub.rfl|exact rfl|exact PSubs.rfl|exact trivial|exact PSub.lit_sb rfl|refine And.intro ?_ ?_))
   all_goals (intro j hj;exact PSubs.rfl)
  replace hyes:=hyes ((hb true).2 (by rw [h,Bool.and_true];assumption))
  have hnl:(l.getD k default).steps.length≤8:=hlens.2
  have hj0:rawJ s sc v o (l.getD k default) 0=⟨o.writes,o.modes,o.ran ++ [(l.getD k default).name],o.notes⟩:=by simp [rawJ,rulW,rulM,rulN]
  refine loop_k (ι:=Nat) [8,9,10,15,17,41,42,43,73,74] [8,9,10,17] (fun j=>j≤(l.getD k default).steps.length) (fun j=>(l.getD k default).steps.length - j) 0 (fun j=>[(75,.pv (vint j))]) (fun j=>runJ s sc v (rawJ s sc v o (l.getD k default) j)) [(511,501),(512,502),(513,67),(514,504)] (Nat.zero_le _) ?_ (fun j hj=>?_)
  ·rw [hj0]
   conv=>whnf
   (repeat' (first|exact PSub.rfl|exact rfl|exact PSubs.rfl|exact trivial|exact PSub.lit_sb rfl|refine And.intro ?_ ?_))
   all_goals first
    |(intro j hj;exact PSubs.rfl)
    |(simp;done)
    |skip
   all_goals
    refine Z0qz (fun i hi=>by simp only [if_pos hi];exact PSubs.rfl) (by simp only [if_neg (Nat.lt_irrefl _),Nat.sub_self];exact PSubs.rfl)
  have hL:=Z0pd (sc:=sc) (v:=v) (j:=j) hl0 hr hj
  have hLw:=hL.w
  have hLm:=hL.m
  have hLn:=hL.n
  conv=>whnf
  refine⟨fun h=>?_,fun h=>?_⟩<;>(try simp only [Q0,Q1,Q2,Q3,Q4,Q5,Q6,Q7,Q8,reduceCtorEq] at h)<;>(conv=>whnf)
  ·have hj2:j < (l.getD k default).steps.length:=by omega
   have hx:=(Z0r9 hr).2.2.2 j hj2
   have hz:=Z0wy (Z0r9 hr).1 hj2
   have hkk:=Z0w4 (Z0r9 hr).1 hj2
   have s1:=Z0r8 s sc v (l.getD k default) j
   have s2:=Z0r3 (l.getD k default) j
   have s3:=Z0r5 (l.getD k default) j
   repeat (any_goals (first
    |(refine And.intro (by(try simp only [Int.toNat_natCast]);omega) ?_;conv=>whnf)))
   rcases hkk with hk1|hk1|hk1|hk1|hk1
   ·have hW:=stp_1 (s:=s) (sc:=sc) (v:=v) (c:=cauR (l.getD k default)) (i:=(j:Int)) hk1
    rw [if_pos (show((l.getD k default).steps.getD ((j:Int)).toNat default).kind=1 from hk1)]
    conv=>whnf
    refine⟨_,[(900000,40),(900001,511),(900002,512),(900003,513),(900004,514)],[(1,701)],_,_,_,Z05i s sc v (rawJ s sc v o (l.getD k default) j) ((l.getD k default).steps.getD j default) (cauR (l.getD k default)) j hs hv (by omega),(by kernel_rfl),rfl,?_⟩
    conv=>whnf
    have eJ:rawJ s sc v o (l.getD k default) (j+1)=⟨(rawJ s sc v o (l.getD k default) j).writes ++ setW s v ((l.getD k default).steps.getD j default) (cauR (l.getD k default)) j,(rawJ s sc v o (l.getD k default) j).modes,(rawJ s sc v o (l.getD k default) j).ran,(rawJ s sc v o (l.getD k default) j).notes⟩:=by
     unfold rawJ
     rw [s1,s2,s3,hW.1,hW.2.1,hW.2.2]
     simp only [List.append_assoc,List.append_nil]
    repeat (any_goals (first
     |(refine .inl ⟨wrap64 (by omega),?_⟩;conv=>whnf)))
    refine⟨j+1,[(511,701)],by omega,by omega,?_⟩
    rw [eJ]
    conv=>whnf
    (repeat' (first|exact PSub.rfl|exact rfl|exact PSubs.rfl|exact trivial|exact PSub.lit_sb rfl|refine And.intro ?_ ?_))
    all_goals (intro j hj;exact PSubs.rfl)
   ·have hW:=stp_2 (s:=s) (sc:=sc) (v:=v) (c:=cauR (l.getD k default)) (i:=(j:Int)) hk1
    rw [if_neg (show ¬ ((l.getD k default).steps.getD ((j:Int)).toNat default).kind=1 from by rw [show((l.getD k default).steps.getD ((j:Int)).toNat default).kind=_ from hk1];decide)]
    rw [if_pos (show((l.getD k default).steps.getD ((j:Int)).toNat default).kind=2 from hk1)]
    obtain⟨kc,hkc⟩:=clu_of hk1 hx
    conv=>whnf
    refine⟨_,[(900000,40),(900001,511),(900002,512),(900003,513),(900004,514)],[(1,701)],_,_,_,Z05d s sc v (rawJ s sc v o (l.getD k default) j) ((l.getD k default).steps.getD j default) (cauR (l.getD k default)) j kc hs hv hkc (by have:=hkc.chk.attrs;omega),(by kernel_rfl),rfl,?_⟩
    conv=>whnf
    have eJ:rawJ s sc v o (l.getD k default) (j+1)=⟨(rawJ s sc v o (l.getD k default) j).writes ++ callW s v ((l.getD k default).steps.getD j default) (cauR (l.getD k default)) j,(rawJ s sc v o (l.getD k default) j).modes,(rawJ s sc v o (l.getD k default) j).ran,(rawJ s sc v o (l.getD k default) j).notes⟩:=by
     unfold rawJ
     rw [s1,s2,s3,hW.1,hW.2.1,hW.2.2]
     simp only [List.append_assoc,List.append_nil]
    repeat (any_goals (first
     |(refine .inl ⟨wrap64 (by omega),?_⟩;conv=>whnf)))
    refine⟨j+1,[(511,701)],by omega,by omega,?_⟩
    rw [eJ]
    conv=>whnf
    (repeat' (first|exact PSub.rfl|exact rfl|exact PSubs.rfl|exact trivial|exact PSub.lit_sb rfl|refine And.intro ?_ ?_))
    all_goals (intro j hj;exact PSubs.rfl)
   ·have hW:=stp_3 (s:=s) (sc:=sc) (v:=v) (c:=cauR (l.getD k default)) (i:=(j:Int)) hk1
    rw [if_neg (show ¬ ((l.getD k default).steps.getD ((j:Int)).toNat default).kind=1 from by rw [show((l.getD k default).steps.getD ((j:Int)).toNat default).kind=_ from hk1];decide)]
    rw [if_neg (show ¬ ((l.getD k default).steps.getD ((j:Int)).toNat default).kind=2 from by rw [show((l.getD k default).steps.getD ((j:Int)).toNat default).kind=_ from hk1];decide)]
    rw [if_pos (show((l.getD k default).steps.getD ((j:Int)).toNat default).kind=3 from hk1)]
    conv=>whnf
    refine⟨_,[(900000,40),(900001,511),(900002,512),(900003,513),(900004,514)],[(1,701)],_,_,_,Z05j s sc v (rawJ s sc v o (l.getD k default) j) ((l.getD k default).steps.getD j default) (cauR (l.getD k default)) j hs hsc hsi (by have:=Z0sj s sc ((l.getD k default).steps.getD j default) (cauR (l.getD k default)) j;omega),(by kernel_rfl),rfl,?_⟩
    conv=>whnf
    have eJ:rawJ s sc v o (l.getD k default) (j+1)=⟨(rawJ s sc v o (l.getD k default) j).writes ++ sceW s sc ((l.getD k default).steps.getD j default) (cauR (l.getD k default)) j,(rawJ s sc v o (l.getD k default) j).modes,(rawJ s sc v o (l.getD k default) j).ran,(rawJ s sc v o (l.getD k default) j).notes⟩:=by
     unfold rawJ
     rw [s1,s2,s3,hW.1,hW.2.1,hW.2.2]
     simp only [List.append_assoc,List.append_nil]
    repeat (any_goals (first
     |(refine .inl ⟨wrap64 (by omega),?_⟩;conv=>whnf)))
    refine⟨j+1,[(511,701)],by omega,by omega,?_⟩
    rw [eJ]
    conv=>whnf
    (repeat' (first|exact PSub.rfl|exact rfl|exact PSubs.rfl|exact trivial|exact PSub.lit_sb rfl|refine And.intro ?_ ?_))
    all_goals (intro j hj;exact PSubs.rfl)
   ·have hW:=stp_4 (s:=s) (sc:=sc) (v:=v) (c:=cauR (l.getD k default)) (i:=(j:Int)) hk1
    rw [if_neg (show ¬ ((l.getD k default).steps.getD ((j:Int)).toNat default).kind=1 from by rw [show((l.getD k default).steps.getD ((j:Int)).toNat default).kind=_ from hk1];decide)]
    rw [if_neg (show ¬ ((l.getD k default).steps.getD ((j:Int)).toNat default).kind=2 from by rw [show((l.getD k default).steps.getD ((j:Int)).toNat default).kind=_ from hk1];decide)]
    rw [if_neg (show ¬ ((l.getD k default).steps.getD ((j:Int)).toNat default).kind=3 from by rw [show((l.getD k default).steps.getD ((j:Int)).toNat default).kind=_ from hk1];decide)]
    rw [if_pos (show((l.getD k default).steps.getD ((j:Int)).toNat default).kind=4 from hk1)]
    conv=>whnf
    refine⟨_,[(900000,40),(900001,511),(900002,512),(900003,513),(900004,514)],[(1,701)],_,_,_,Z05k s sc v (rawJ s sc v o (l.getD k default) j) ((l.getD k default).steps.getD j default) (cauR (l.getD k default)) j (by omega),(by kernel_rfl),rfl,?_⟩
    conv=>whnf
    have eJ:rawJ s sc v o (l.getD k default) (j+1)=⟨(rawJ s sc v o (l.getD k default) j).writes,(rawJ s sc v o (l.getD k default) j).modes ++ [⟨noKey,⟨4,0,((l.getD k default).steps.getD j default).name⟩,cauR (l.getD k default),j⟩],(rawJ s sc v o (l.getD k default) j).ran,(rawJ s sc v o (l.getD k default) j).notes⟩:=by
     unfold rawJ
     rw [s1,s2,s3,hW.1,hW.2.1,hW.2.2]
     simp only [List.append_assoc,List.append_nil]
    repeat (any_goals (first
     |(refine .inl ⟨wrap64 (by omega),?_⟩;conv=>whnf)))
    refine⟨j+1,[(512,701)],by omega,by omega,?_⟩
    rw [eJ]
    conv=>whnf
    (repeat' (first|exact PSub.rfl|exact rfl|exact PSubs.rfl|exact trivial|exact PSub.lit_sb rfl|refine And.intro ?_ ?_))
    all_goals (intro j hj;exact PSubs.rfl)
   ·have hW:=stp_5 (s:=s) (sc:=sc) (v:=v) (c:=cauR (l.getD k default)) (i:=(j:Int)) hk1
    rw [if_neg (show ¬ ((l.getD k default).steps.getD ((j:Int)).toNat default).kind=1 from by rw [show((l.getD k default).steps.getD ((j:Int)).toNat default).kind=_ from hk1];decide)]
    rw [if_neg (show ¬ ((l.getD k default).steps.getD ((j:Int)).toNat default).kind=2 from by rw [show((l.getD k default).steps.getD ((j:Int)).toNat default).kind=_ from hk1];decide)]
    rw [if_neg (show ¬ ((l.getD k default).steps.getD ((j:Int)).toNat default).kind=3 from by rw [show((l.getD k default).steps.getD ((j:Int)).toNat default).kind=_ from hk1];decide)]
    rw [if_neg (show ¬ ((l.getD k default).steps.getD ((j:Int)).toNat default).kind=4 from by rw [show((l.getD k default).steps.getD ((j:Int)).toNat default).kind=_ from hk1];decide)]
    conv=>whnf
    refine⟨_,[(900000,40),(900001,511),(900002,512),(900003,513),(900004,514)],[(1,701)],_,_,_,Z05f s sc v (rawJ s sc v o (l.getD k default) j) ((l.getD k default).steps.getD j default) (cauR (l.getD k default)) j (by omega) (by show(l.getD k default).name.size≤_;have:=hz.1;omega) (by have:=hz.2 hk1;omega),(by kernel_rfl),rfl,?_⟩
    conv=>whnf
    have eJ:rawJ s sc v o (l.getD k default) (j+1)=⟨(rawJ s sc v o (l.getD k default) j).writes,(rawJ s sc v o (l.getD k default) j).modes,(rawJ s sc v o (l.getD k default) j).ran,(rawJ s sc v o (l.getD k default) j).notes ++ [(cauR (l.getD k default)).name ++ (⟨#[58,32]⟩:ByteArray) ++ ((l.getD k default).steps.getD j default).name]⟩:=by
     unfold rawJ
     rw [s1,s2,s3,hW.1,hW.2.1,hW.2.2]
     simp only [List.append_assoc,List.append_nil]
    repeat (any_goals (first
     |(refine .inl ⟨wrap64 (by omega),?_⟩;conv=>whnf)))
    refine⟨j+1,[(514,701)],by omega,by omega,?_⟩
    rw [eJ]
    conv=>whnf
    (repeat' (first|exact PSub.rfl|exact rfl|exact PSubs.rfl|exact trivial|exact PSub.lit_sb rfl|refine And.intro ?_ ?_))
    all_goals (intro j hj;exact PSubs.rfl)
  ·have e:j=(l.getD k default).steps.length:=by omega
   rw [←e] at hyes
   repeat (any_goals (first
    |(refine .inl ⟨wrap64 (by omega),?_⟩;conv=>whnf)))
   refine⟨k+1,[(501,511),(502,512),(503,513),(504,514)],by omega,by omega,?_⟩
   rw [hyes]
   conv=>whnf
   (repeat' (first|exact PSub.rfl|exact rfl|exact PSubs.rfl|exact trivial|exact PSub.lit_sb rfl|refine And.intro ?_ ?_))
   all_goals (intro j hj;exact PSubs.rfl)
 ·have e:k=l.length:=by omega
  subst e
  generalize R l.length=o at *
  refine .inr (.inr (.inr (.inr ⟨[(900000,501)],[],_,_,_,Z06i o.writes (by omega),rfl,?_⟩)))
  conv=>whnf
  refine .inr (.inr (.inr (.inr ⟨[(900000,502)],[],_,_,_,Z06i o.modes (by omega),rfl,?_⟩)))
  conv=>whnf
  repeat (any_goals (first
   |(refine .inl ⟨_,Z01s o.ran (by omega),?_⟩;conv=>whnf)
   |(refine .inl ⟨_,Z01s o.notes (by omega),?_⟩;conv=>whnf)))
  refine⟨?_,?_⟩<;>(conv=>whnf)
  all_goals trace_state
  ·repeat' (first|exact PSub.rfl|exact PSub.nil_ro _ _|exact PSub.lit_sb rfl|exact trivial|exact Z085|refine PSub.agg ?_|refine PSub.ro rfl ?_|refine Z084 ?_ ?_|refine And.intro ?_ ?_)
  ·repeat' (first|exact PSub.rfl|exact PSub.nil_ro _ _|exact PSub.lit_sb rfl|exact trivial|exact Z085|refine PSub.agg ?_|refine PSub.ro rfl ?_|refine Z084 ?_ ?_|refine And.intro ?_ ?_)
end Go.Abs
namespace Go.Abs
open Go.Proofs Go.RowKit
set_option maxRecDepth 10000
structure RuC where
 s:Sco
 sc:List Scene
 l:List Rul
 v:Vw
 h:Hap
def cRuC (c:RuC):List PV:=cSco c.s ++ [roL 2 cSce c.sc,roL 15 cRul c.l] ++ cVw c.v ++ cHap c.h
def smallSc (l:List Scene):Prop:=smallL l∧∀ i,i < l.length→smallL (l.getD i default).items
def smallRl (l:List Rul):Prop:=smallL l∧∀ i,i < l.length→goodRulO (l.getD i default)
structure smallRuC (c:RuC):Prop where
 s:smallS c.s
 sc:smallSc c.sc
 l:smallRl c.l
 v:smallV2 c.v
 h:smallHp c.h
structure smallOut (o:Out):Prop where
 w:smallL o.writes
 m:smallL o.modes
 r:smallL o.ran
 n:smallL o.notes
section
variable {H:Type} {enc:TypeId × Value→H} {w:World} {bulk:DataW H→Nat}
end
end Go.Abs
namespace Go.Abs
open Go.Proofs
structure SameV (v w:Vw):Prop where
 items:∀ k,findI v.items k=findI w.items k
 mode:v.mode=w.mode
 minute:v.minute=w.minute
 home:∀ r,homeB v.members r=homeB w.members r
theorem SameV.at {v w:Vw} (h:SameV v w) (k:Key):atV v.items k=atV w.items k:=by unfold atV;rw [h.items]
end Go.Abs
namespace Go.Abs
open Go.Proofs
set_option maxRecDepth 10000
def homeN:Hom:=⟨stdC,[⟨1,0,0,false,0,(⟨#[104,97,108,108]⟩:ByteArray),[(⟨#[108,101,118,101,108]⟩:ByteArray)]⟩]⟩
def scoN:Sco:=⟨homeN,[(⟨#[104,111,109,101]⟩:ByteArray),(⟨#[110,105,103,104,116]⟩:ByteArray)],[]⟩
def keyN:Key:=⟨1,(⟨#[108,101,118,101,108]⟩:ByteArray),(⟨#[108,101,118,101,108]⟩:ByteArray)⟩
def rulN1:Rul:=⟨(⟨#[110,105,103,104,116]⟩:ByteArray),10,[⟨5,noKey,noEvt,⟨#[]⟩,0,0⟩],.mk 1 0 0 ⟨#[]⟩ ⟨1,1,⟨#[]⟩⟩ noKey [],[⟨1,keyN,⟨#[]⟩,.mk 1 0 0 ⟨#[]⟩ ⟨2,150,⟨#[]⟩⟩ noKey []⟩,⟨4,noKey,(⟨#[110,105,103,104,116]⟩:ByteArray),noEx⟩]⟩
def vwN:Vw:=⟨[],⟨#[]⟩,0,[]⟩
def hapN (b:Bool):Hap:=⟨[],[],-1,-1,⟨#[]⟩,b,[]⟩
def nightC:RuC:=⟨scoN,[],[rulN1],vwN,hapN true⟩
def outN:Out:=⟨[⟨keyN,⟨2,100,⟨#[]⟩⟩,⟨2,(⟨#[110,105,103,104,116]⟩:ByteArray),10⟩,0⟩],[⟨noKey,⟨4,0,(⟨#[110,105,103,104,116]⟩:ByteArray)⟩,⟨2,(⟨#[110,105,103,104,116]⟩:ByteArray),10⟩,1⟩],[(⟨#[110,105,103,104,116]⟩:ByteArray)],[]⟩
theorem nn1:runE scoN [rulN1]=0:=by kernel_rfl
theorem nn2:runR scoN [] vwN (hapN true) [rulN1]=outN:=by kernel_rfl
theorem nn3:runR scoN [] vwN (hapN false) [rulN1]=noOut:=by kernel_rfl
theorem nn4:modeT outN.modes (⟨#[104,111,109,101]⟩:ByteArray)=(⟨#[110,105,103,104,116]⟩:ByteArray):=by kernel_rfl
theorem nn5:modeT noOut.modes (⟨#[104,111,109,101]⟩:ByteArray)=(⟨#[104,111,109,101]⟩:ByteArray):=by kernel_rfl
theorem Z0tg:smallS scoN:=by
 refine⟨⟨⟨sl rfl,Z0te⟩,sl rfl,fun i=>?_⟩,sl rfl,sl rfl⟩
 cases i with
 |zero=>exact⟨sl rfl,by decide,by decide⟩
 |succ i=>
  have:scoN.home.devices.getD (i+1) default=default:=rfl
  rw [this];exact⟨Nat.zero_le _,by decide,by decide⟩
theorem Z0tc (b:Bool):smallHp (hapN b):=⟨sl rfl,sl rfl,sl rfl⟩
theorem Z0ti:smallV2 vwN:=⟨sl rfl,sl rfl⟩
theorem Z01p:AC Tryz.prog 23 [] [] (.pv (.agg (cRuC nightC))) []:=by
 refine AC.of_awp (T:=T) T_ok hm Tryz.call23 Tryz.func23 rfl rfl rfl ?_
 conv=>whnf
 repeat (any_goals (first
  |(refine .inl ⟨_,AC.sub1 (Z03l true) (PSub.lit_sb rfl),?_⟩;conv=>whnf)
  |(refine .inl ⟨_,Z03m ⟨2,150,⟨#[]⟩⟩,?_⟩;conv=>whnf)
  |(refine .inl ⟨_,Z008,?_⟩;conv=>whnf)
  |(refine And.intro (show(_:Bool)=true from by kernel_rfl) ?_;conv=>whnf)))
 repeat' (first|exact PSub.rfl|exact PSub.nil_ro _ _|exact PSub.lit_sb rfl|exact trivial|exact Z085|refine PSub.agg ?_|refine PSub.ro rfl ?_|refine Z084 ?_ ?_|refine And.intro ?_ ?_)
theorem AC.sub5 {P:Program} {f:FuncId} {p q p2 q2 p3 q3 p4 q4 p5 q5:PV} {os os':Upd} {res:AV} (h:AC P f [.pv q,.pv q2,.pv q3,.pv q4,.pv q5] os res os') (h1:PSub p q) (h2:PSub p2 q2) (h3:PSub p3 q3) (h4:PSub p4 q4) (h5:PSub p5 q5):AC P f [.pv p,.pv p2,.pv p3,.pv p4,.pv p5] os res os':=
 AC.sub (qs:=[q,q2,q3,q4,q5]) (ps:=[p,p2,p3,p4,p5]) h ⟨h1,h2,h3,h4,h5,trivial⟩
theorem Z01o:AC Tryz.prog 10 [] [] (.pv (vbool true)) []:=by
 have c1:=Z05b scoN [] vwN (hapN true) [rulN1] Z0tg (sl rfl) (fun i hi=>absurd hi (by simp)) Z0ti (Z0tc true)
 have c2:=Z05b scoN [] vwN (hapN false) [rulN1] Z0tg (sl rfl) (fun i hi=>absurd hi (by simp)) Z0ti (Z0tc false)
 rw [nn2,nn1] at c1
 rw [nn3,nn1] at c2
 have c3:=Z05a outN (⟨#[104,111,109,101]⟩:ByteArray) (sl rfl)
 have c4:=Z05a noOut (⟨#[104,111,109,101]⟩:ByteArray) (sl rfl)
 rw [nn4] at c3
 rw [nn5] at c4
 have c5:=Z04w noOut noOut ⟨by decide,by decide,by decide,by decide⟩
 refine AC.of_awp (T:=T) T_ok hm Tryz.call10 Tryz.func10 rfl rfl rfl ?_
 conv=>whnf
 refine .inl ⟨_,Z01p,?_⟩
 conv=>whnf
 refine .inl ⟨_,AC.sub5 (c1) (by repeat' (first|exact PSub.rfl|exact PSub.nil_ro _ _|exact PSub.lit_sb rfl|exact trivial|exact Z085|refine PSub.agg ?_|refine PSub.ro rfl ?_|refine Z084 ?_ ?_|refine And.intro ?_ ?_)) (by repeat' (first|exact PSub.rfl|exact PSub.nil_ro _ _|exact PSub.lit_sb rfl|exact trivial|exact Z085|refine PSub.agg ?_|refine PSub.ro rfl ?_|refine Z084 ?_ ?_|refine And.intro ?_ ?_)) (by repeat' (first|exact PSub.rfl|exact PSub.nil_ro _ _|exact PSub.lit_sb rfl|exact trivial|exact Z085|refine PSub.agg ?_|refine PSub.ro rfl ?_|refine Z084 ?_ ?_|refine And.intro ?_ ?_)) (by repeat' (first|exact PSub.rfl|exact PSub.nil_ro _ _|exact PSub.lit_sb rfl|exact trivial|exact Z085|refine PSub.agg ?_|refine PSub.ro rfl ?_|refine Z084 ?_ ?_|refine And.intro ?_ ?_)) (by repeat' (first|exact PSub.rfl|exact PSub.nil_ro _ _|exact PSub.lit_sb rfl|exact trivial|exact Z085|refine PSub.agg ?_|refine PSub.ro rfl ?_|refine Z084 ?_ ?_|refine And.intro ?_ ?_)),?_⟩
 conv=>whnf
 conv=>whnf
 refine .inl ⟨_,AC.sub5 (c2) (by repeat' (first|exact PSub.rfl|exact PSub.nil_ro _ _|exact PSub.lit_sb rfl|exact trivial|exact Z085|refine PSub.agg ?_|refine PSub.ro rfl ?_|refine Z084 ?_ ?_|refine And.intro ?_ ?_)) (by repeat' (first|exact PSub.rfl|exact PSub.nil_ro _ _|exact PSub.lit_sb rfl|exact trivial|exact Z085|refine PSub.agg ?_|refine PSub.ro rfl ?_|refine Z084 ?_ ?_|refine And.intro ?_ ?_)) (by repeat' (first|exact PSub.rfl|exact PSub.nil_ro _ _|exact PSub.lit_sb rfl|exact trivial|exact Z085|refine PSub.agg ?_|refine PSub.ro rfl ?_|refine Z084 ?_ ?_|refine And.intro ?_ ?_)) (by repeat' (first|exact PSub.rfl|exact PSub.nil_ro _ _|exact PSub.lit_sb rfl|exact trivial|exact Z085|refine PSub.agg ?_|refine PSub.ro rfl ?_|refine Z084 ?_ ?_|refine And.intro ?_ ?_)) (by repeat' (first|exact PSub.rfl|exact PSub.nil_ro _ _|exact PSub.lit_sb rfl|exact trivial|exact Z085|refine PSub.agg ?_|refine PSub.ro rfl ?_|refine Z084 ?_ ?_|refine And.intro ?_ ?_)),?_⟩
 conv=>whnf
 conv=>whnf
 repeat (any_goals (first
  |(refine⟨fun(h:(_:Bool)=true)=>?_,fun(h:(_:Bool)=false)=>?_⟩<;>(try simp only [Q0,Q1,Q2,Q3,Q4,Q5,Q6,Q7,Q8,reduceCtorEq] at h)<;>(conv=>whnf))
  |(refine .inl ⟨_,c3,?_⟩;conv=>whnf)
  |(refine .inl ⟨_,c4,?_⟩;conv=>whnf)
  |(refine .inl ⟨_,AC.sub2 (c5) (by repeat' (first|exact PSub.rfl|exact PSub.nil_ro _ _|exact PSub.lit_sb rfl|exact trivial|exact Z085|refine PSub.agg ?_|refine PSub.ro rfl ?_|refine Z084 ?_ ?_|refine And.intro ?_ ?_)) (by repeat' (first|exact PSub.rfl|exact PSub.nil_ro _ _|exact PSub.lit_sb rfl|exact trivial|exact Z085|refine PSub.agg ?_|refine PSub.ro rfl ?_|refine Z084 ?_ ?_|refine And.intro ?_ ?_)),?_⟩;conv=>whnf)
  |(refine And.intro (by(try simp only [Int.toNat_natCast]);omega) ?_;conv=>whnf)))
 all_goals first
  |exact PSub.sb (decide_eq_true rfl)
  |exact PSub.sb (by kernel_rfl)
  |exact PSub.lit_sb rfl
  |exact absurd trivial h
  |(exfalso;exact h (by kernel_rfl))
  |(exfalso;exact absurd (h.symm.trans (by kernel_rfl)) Bool.false_ne_true)
  |trace_state
end Go.Abs
