/- A part of TopStops's proof: SvRowR SvStgs SvTo. -/
import Derived.Deep.DeepCutAuto
import Derived.Test.YtjopfpegcckllaaGreatDoorZqAk
set_option linter.all false
set_option maxRecDepth 100000
set_option maxHeartbeats 12800000
open Go.Proofs.Tryz
open Go renaming Oper→bt,Act→a6,World→O,Value→W,wpAnyH→bJ,AllReadyH→b5,Calls→aj,Addr→am,TypeId→an,Ending→aO,wpList→bG,sizeOf→ci,rounds_succ→a9,isAgg→ct,bodyPost_ret→a4,wp_region_noPanic→aZ,wp_region_held_drew→a3,wpAnyH_done→aW
open Go.AllReadyH renaming cons→av,nil→bm
open Go.Ending renaming returned→aw
open Go.IntKind renaming i64→I
open Go.Lib renaming hid→G
open Go.NoPanic renaming normal→aX
open Go.Obj renaming cells→ao
open Go.Proofs.Tryz renaming prog→ae
open Go.RowKit renaming Hid→Y,intOf→aI
open Go.Value renaming tuple→aY,int→H,bool→J,slice→D,agg→af,pointer→az,string→al
open Go.World renaming setCell→ag,alloc→ah
open List renaming getElem_mem→cq,getElem?_eq_getElem→aT,take_length→co
open Nat renaming le_refl→a8,le_trans→aQ,zero_le→bn
open Option renaming some→U
variable {α:Type}{at_ j:Int}{ls:List (List Rat)}{qs:List Rat}{new old vs:List W}{c g i k n r:Nat}{ab w w0 w1 wb:O}{row:Option Nat}{A:Option am}{h o q z:Rat}{v:W}{S T:an}
namespace Go.Proofs.YtjopfpegcckllaaGreatDoor
open Go.RowKit
def hj (q:Rat)(w:O)(e:aO)(b:O):Prop:= ∃a,e=aw (aY #[a,af #[H I 0,H I 0,H I 0,H I 0]])/\Qw b a q/\V w b
theorem Dc {s:Bool}{z:Int}(Z:Y (q=1/2))(h1:Y (((1:Nat):Int)=z))(g:Zw w (af #[J s,D A n c]) z):aj ae 217 #[af #[J s,D A n c],al ⟨#[49,47,50]⟩,H I 2] w (hj q w):=by
 have Q:Y (mkRat z (E.val (E.words 2))=q):=G (by rw[Z.out,<-h1.out,E.bl];decide +kernel);have M:Y (E.Lz z 1):=G (by rw[<-h1.out];exact gM (by decide));have P:Y ((E.words 2).length<=1):=G (gM (by decide));have N:Y ((!decide (E.val (E.words 2)=0))=true):=G (by rw[E.bl];rfl);go_enter func217,ntmps217;go_wp2_with fail;generalize j:ah (ah (ah w _) _) _=R at*;obtain⟨i,d,b,a⟩:=dm j;clear j;replace g:=g.up i;have l:=d.c2;have m:=b.c3;have x:=b.free;have r:=a.c4;have u:=a.free;go_wp2_with fail
 with_reducible refine(C9 R).mono ?_
 rintro X S ⟨ai,rfl,k,u1⟩;revert i d b a g l m;refine bS u1 ?_;intro i d b a g l m;replace x:=b.free;replace r:=a.c4;replace u:=a.free;clear u1;have y:=d.d2;have B:=b.d3;have C:=b.fa;have F:=a.d4;have K:=a.fa;go_wp2_with fail;clear y B C F K;generalize j:ah S _=an at*;obtain⟨t,f⟩:=aC j;clear j;have au:=d.lt;have aB:=b.lt;have aE:=a.lt;revert k i d b a g l m;refine b9 t ?_;intro k i d b a g l m;replace x:=b.free;replace r:=a.c4;replace u:=a.free;clear t;have v:=f.c4
 with_reducible refine(oG (g.wh M.out) k (by omega) (aQ P.out (by omega))).mono ?_
 rintro X T ⟨ak,rfl,q1,u3⟩;revert f k i d b a g l m;refine bE u3 ?_;intro f k i d b a g l m;replace x:=b.free;replace r:=a.c4;replace u:=a.free;replace v:=f.c4;clear u3;rw[Q.out]at q1;rw[N.out];obtain⟨aq,ar,rfl,q1,o⟩:=q1;obtain⟨aa,az,ax,rfl⟩:=q1.shape;obtain⟨ab,aA,ay,rfl⟩:=o.shape;have y:=d.d2;have B:=b.d3;have C:=b.fa;have F:=a.d4;have K:=a.fa;have W:=f.d4;go_wp2_with fail;clear y B C F K W;generalize j:ah T _=U at*;obtain⟨t,p⟩:=aC j;clear j;have av:=d.lt;have aD:=b.lt;have aF:=a.lt;have aw:=f.lt;revert f k i d b a g l m q1 o;refine bC t ?_;intro f k i d b a g l m q1 o;replace x:=b.free;replace r:=a.c4;replace u:=a.free;replace v:=f.c4;clear t;have L:=p.c3;generalize j:ag (ag (ag U _ _) _ _) _ _=V at*;have e:=dh b j;clear j;revert k g q1 o;refine bf e.kw ?_;intro k g q1 o;replace d:=d.bs e;replace a:=a.bs e;replace f:=f.bs e;replace p:=p.bs e;replace b:=e.new;replace i:=i.bs e;clear e;replace l:=d.c2;replace m:=b.c3;replace r:=a.c4;replace u:=a.free;replace v:=f.c4;replace L:=p.c3;generalize j:ag (ag (ag (ag V _ _) _ _) _ _) _ _=ao at*;have e:=bp a j;clear j;revert k g q1 o;refine bf e.kw ?_;intro k g q1 o;replace d:=d.bs e;replace b:=b.bs e;replace f:=f.bs e;replace p:=p.bs e;replace a:=e.new;replace i:=i.bs e;clear e;replace l:=d.c2;replace m:=b.c3;replace r:=a.c4;replace v:=f.c4;replace L:=p.c3;exact a4 (ng rfl rfl rfl g6 g7 bM bN b rfl a rfl) rfl ⟨_,rfl,⟨_,_,rfl,q1,o⟩,i⟩
theorem uk {s:ByteArray}{d:Nat}(h:Dg s d)(w:O):aj ae 207 #[al s] w (hj (d:Rat) w):=by
 have ai:Y (d<4294967296):=G (by rcases h with h|h|h<;>rw[h.2]<;>decide);have N:Y (E.Lz (d:Int) 1):=G (gM ai.out);obtain⟨q,Q⟩:∃q,Y ((d:Rat)=q):=⟨_,G rfl⟩;have P:Y (mkRat (d:Int) (E.val (E.words 1))=q):=G (by rw[<-Q.out,E.bl];exact Rat.mkRat_one _);have am:Y ((E.words 1).length<=1):=G (gM (by decide));obtain⟨M,R⟩:∃M:Int,Y ((d:Int)=M):=⟨_,G rfl⟩;rw[Q.out];rw[R.out]at P N;go_enter func207,ntmps207;go_wp2_with fail;generalize l:ah (ah w _) _=ao at*;obtain⟨f,b,a⟩:=br l;clear l;have r:=b.c3;have B:=b.free;have v:=a.c4;have y:=a.free;go_wp2_with fail
 with_reducible refine(C4 h ao).mono ?_
 rintro L aq ⟨rfl,u1⟩;revert f b a r;refine bf u1 ?_;intro f b a r;replace B:=b.free;replace v:=a.c4;replace y:=a.free;clear u1;go_wp2_with fail
 with_reducible refine(uj h aq).mono ?_
 rintro L T ⟨an,rfl,j,u2⟩;revert f b a r;refine bf u2 ?_;intro f b a r;replace B:=b.free;replace v:=a.c4;replace y:=a.free;clear u2;rw[R.out]at j;have m:=j;obtain⟨aT,rfl,j⟩:=j;obtain⟨af,aE,az,rfl⟩:=j.shape;have aF:=b.d3;have aI:=b.fa;have aK:=a.d4;have aM:=a.fa;have aG:=λI K=>(b.up (((V.refl _).alloc I).alloc K)).c3
 have aJ:=b.eE;have aL:=λI K=>(a.up (((V.refl _).alloc I).alloc K)).c4
 have aN:=a.eE;go_wp2_with fail;clear aF aI aK aM aG aJ aL aN;generalize l:ah (ah T _) _=U at*;obtain⟨A,e,g⟩:=br l;clear l;have ba:=b.lt;have bg:=a.lt;have bb:=b.lt;have bh:=a.lt;revert f b a r j m;refine bO A ?_;intro f b a r j m;replace B:=b.free;replace v:=a.c4;replace y:=a.free;clear A;have F:=e.c2;have H:=g.c4;revert e g f b a r j m;refine b9 (V.refl U).drew ?_;intro e g f b a r j m;replace B:=b.free;replace v:=a.c4;replace y:=a.free;replace F:=e.c2;replace H:=g.c4;refine aZ ?_;refine a3 (S:=λab=>V w ab/\Cz ab (T.heap.size) 0 [J (E.aB M),D af aE az]) (by kernel_rfl) (by exact⟨f,e.cz⟩) (λx=> ?_);generalize U.drew=z at*;refine aa 0 ?_
 repeat' first
  |(have t:=X;clear X
    (try clear x)
    go_simp;go_at_call 53
    with_reducible refine(h7 (n:=1) 1 rfl (by decide) _).mono ?_
    rintro L z ⟨aP,rfl,o,u⟩;revert e g f b a j m;refine bS u ?_;intro e g f b a j m
    try(replace p:=p.up u)
    try(replace pd:=pd.up u)
    try(replace k:=k.up u)
    replace B:=b.free;replace r:=b.c3;replace y:=a.free;replace v:=a.c4;replace F:=e.c2;replace H:=g.c4;clear u
    try go_wp2_with fail
    refine ax t (by exact⟨f,e.cz⟩) (λx=> ?_);clear t C)
  |(have t:=aD;clear aD
    (try clear x)
    go_simp;go_at_call 114
    with_reducible refine(oG (m.wh N.out) o (by omega) (aQ am.out (by omega))).mono ?_
    rintro L z ⟨an,rfl,p,u⟩;revert e g f b a j m;refine bS u ?_;intro e g f b a j m
    try(replace o:=o.up u)
    try(replace pd:=pd.up u)
    try(replace k:=k.up u)
    replace B:=b.free;replace r:=b.c3;replace y:=a.free;replace v:=a.c4;replace F:=e.c2;replace H:=g.c4;clear u;rw[P.out]at p;obtain⟨aS,aU,rfl,p,pd⟩:=p;obtain⟨Ap,a8,a5,rfl⟩:=p.shape;obtain⟨aO,a9,a6,rfl⟩:=pd.shape
    try go_wp2_with fail
    refine ax t (by exact⟨f,e.cz⟩) (λx=> ?_);clear t C)
  |(have t:=aH;clear aH
    (try clear x)
    go_simp;have bd:=b.lt;have bi:=a.lt;have aY:=e.lt;have a1:=g.lt;have a2:=f.size;generalize Z:z.heap.size=a7 at*;generalize l:ah z _=z at*;obtain⟨A,k⟩:=b3 l Z;clear l Z;revert e g f b a j m;refine bS A ?_;intro e g f b a j m
    try(replace o:=o.up A)
    try(replace p:=p.up A)
    try(replace pd:=pd.up A)
    replace B:=b.free;replace r:=b.c3;replace y:=a.free;replace v:=a.c4;replace F:=e.c2;replace H:=g.c4;clear A;refine ax t (by exact⟨f,e.cz⟩) (λx=> ?_);clear t C)
  |(have t:=aV;clear aV
    (try clear x)
    obtain⟨au,aw,ay⟩:=k.c3;have aA:=k.free 0;have aB:=k.free 1;have aC:=k.free 2;go_simp;clear au aw ay aA aB aC;generalize l:ag (ag (ag z _ _) _ _) _ _=z at*;have c:=dh k l;clear l;replace j:=j.kw c.kw;replace m:=m.kw c.kw
    try(replace o:=o.kw c.kw)
    try(replace p:=p.kw c.kw)
    try(replace pd:=pd.kw c.kw)
    replace b:=b.bs c;replace a:=a.bs c;replace e:=e.bs c;replace g:=g.bs c;replace k:=c.new;replace f:=f.bs c;clear c;replace B:=b.free;replace r:=b.c3;replace y:=a.free;replace v:=a.c4;replace F:=e.c2;replace H:=g.c4;refine ax t (by exact⟨f,e.cz⟩) (λx=> ?_);clear t C)
  |(with_reducible show b5 _ _ _ _ _ _ _ _ _ _
    first
     |refine av (i:=1) rfl (λC X=> ?_) ?_
     |refine av (i:=2) rfl (λC aD=> ?_) ?_
     |refine av (i:=6) rfl (λC aH=> ?_) ?_
     |refine av (i:=7) rfl (λC aV=> ?_) ?_
     |exact bm)
  |(with_reducible show bJ _ _ _ _ _ _ _ _ _
    first
     |refine ak [1,6] ?_
     |refine ak [1] ?_
     |refine ak [2,6] ?_
     |refine ak [2] ?_
     |refine ak [6] ?_
     |refine ak [7] ?_
     |refine aa 3 ?_
     |refine aa 4 ?_
     |refine aa 5 ?_
     |refine aa 8 ?_
     |refine aW (by decide +kernel) (aX ?_) _)
  |fail
 all_goals try clear x
 all_goals have W:=k.c3
 all_goals
  go_wp2_with fail;generalize l:ag (ag (ag z _ _) _ _) _ _=ar at*;have c:=dh b l;clear l;revert j m o p pd;refine b8 c.kw ?_;intro j m o p pd
  replace a:=a.bs c;replace e:=e.bs c;replace g:=g.bs c;replace k:=k.bs c;replace b:=c.new;replace f:=f.bs c;clear c;replace r:=b.c3;replace v:=a.c4;replace y:=a.free;replace F:=e.c2;replace H:=g.c4;replace W:=k.c3;generalize l:ag (ag (ag (ag ar _ _) _ _) _ _) _ _=aR at*;have c:=bp a l;clear l;revert j m o p pd;refine b8 c.kw ?_;intro j m o p pd
  replace b:=b.bs c;replace e:=e.bs c;replace g:=g.bs c;replace k:=k.bs c;replace a:=c.new;replace f:=f.bs c;clear c;replace r:=b.c3;replace v:=a.c4;replace F:=e.c2;replace H:=g.c4;replace W:=k.c3;exact a4 (ng rfl rfl rfl g6 g7 bM bN b rfl a rfl) rfl ⟨_,rfl,⟨_,_,rfl,p,pd⟩,f⟩
theorem Dd (E:Y (q=1/2))(w:O):aj ae 207 #[al ⟨#[49,47,50]⟩] w (hj q w):=by
 have ai:(((⟨#[49,47,50]⟩:ByteArray)[1]'(by decide)).toNat:Int)=47:=by decide
 obtain⟨y,u⟩:∃y:Int,Y (((1:Nat):Int)=y):=⟨_,G rfl⟩;go_enter func207,ntmps207;go_wp2_with fail;generalize f:ah (ah w _) _=z at*;obtain⟨d,b,a⟩:=br f;clear f;have j:=b.c3;have n:=b.free;have l:=a.c4;have m:=a.free;go_wp2_with fail
 with_reducible refine(C5 z).mono ?_
 rintro v A ⟨rfl,u1⟩;revert d b a j;refine bf u1 ?_;intro d b a j;replace n:=b.free;replace l:=a.c4;replace m:=a.free;clear u1;go_wp2_with fail
 with_reducible refine(uj C8 A).mono ?_
 rintro v B ⟨R,rfl,e,u2⟩;revert d b a j;refine bf u2 ?_;intro d b a j;replace n:=b.free;replace l:=a.c4;replace m:=a.free;clear u2;rw[u.out]at e;have k:=e;obtain⟨X,rfl,e⟩:=e;obtain⟨Q,an,af,rfl⟩:=e.shape;have F:=b.d3;have I:=b.fa;have K:=a.d4;have M:=a.fa;have H:=λo r=>(b.up (((V.refl _).alloc o).alloc r)).c3
 have J:=b.eE;have L:=λo r=>(a.up (((V.refl _).alloc o).alloc r)).c4
 have N:=a.eE;go_wp2_with fail;clear F I K M H J L N;generalize f:ah (ah B _) _=T at*;obtain⟨x,g,i⟩:=br f;clear f;have ao:=b.lt;have ar:=a.lt;have aq:=b.lt;have au:=a.lt;revert d b a j e k;refine bO x ?_;intro d b a j e k;replace n:=b.free;replace l:=a.c4;replace m:=a.free;clear x;have s:=g.c2;have t:=i.c4
 with_reducible refine(Dc E u k).mono ?_
 rintro v C ⟨S,rfl,p,u4⟩;revert g i d b a j e k;refine b9 u4 ?_;intro g i d b a j e k;replace n:=b.free;replace l:=a.c4;replace m:=a.free;replace s:=g.c2;replace t:=i.c4;clear u4;obtain⟨W,Z,rfl,p,pd⟩:=p;obtain⟨Ap,ak,aa,rfl⟩:=p.shape;obtain⟨P,am,ab,rfl⟩:=pd.shape;go_wp2;generalize f:ag (ag (ag C _ _) _ _) _ _=D at*;have c:=dh b f;clear f;revert e k p pd;refine bf c.kw ?_;intro e k p pd;replace a:=a.bs c;replace g:=g.bs c;replace i:=i.bs c;replace b:=c.new;replace d:=d.bs c;clear c;replace j:=b.c3;replace l:=a.c4;replace m:=a.free;replace s:=g.c2;replace t:=i.c4;generalize f:ag (ag (ag (ag D _ _) _ _) _ _) _ _=U at*;have c:=bp a f;clear f;revert e k p pd;refine bf c.kw ?_;intro e k p pd;replace b:=b.bs c;replace g:=g.bs c;replace i:=i.bs c;replace a:=c.new;replace d:=d.bs c;clear c;replace j:=b.c3;replace l:=a.c4;replace s:=g.c2;replace t:=i.c4;exact a4 (ng rfl rfl rfl g6 g7 bM bN b rfl a rfl) rfl ⟨_,rfl,⟨_,_,rfl,p,pd⟩,d⟩
theorem um {TS:an}{z:W}{size ee:Nat}(E:Tryz.prog.underlying TS=U (.slice T))(hI:d8 T z size ee)(q:ee<=1000){aV:Array bt}{rest:List bt}{o:bt}{a:a6}{Q:Exit->a6->O->Prop}
 (s:o.guard=none)(d c:Operand)(A:o.op=Op.makeSlice TS d c)(n:Nat){L:Int}(x:a.eval d=H I L)(r:a.eval c=H I L)(e:L=(n:Int))(y:n<=1000000)
 (p:∀b,Bx T b w.heap.size (madeCells z.cells (n*size)).toList->V w b->bG ae aV Q rest (a.put o.dst (D (U ⟨w.heap.size,0,none⟩) n n)) b):
 bG ae aV Q (o::rest) a w:=by
 obtain⟨K,v,F,G,J⟩:=info_parts hI;refine wpList_make_full w s d c TS A w.heap.size T K z size E v F G I I L L n x r e e (by rw[J];exact aQ (Nat.mul_le_mul q y) (by decide)) (by unfold maxLen;omega) (a8 _) ?_;intro b B t;refine p b ?_ ((V.refl w).grown t (λk l=>by cases l));rcases B.2 with⟨m,_⟩|⟨N,M,i,g,_,u,_,_,C,f⟩
 .cases m
 .simp at g;obtain⟨rfl,rfl⟩:=g;unfold Bx;rw[u];rw[List.take_of_length_le (by simp[C])]at f
  have j:i=(madeCells z.cells (n*size)).toList.toArray:=by
   apply Array.toList_inj.1;rw[f]
  rw[j]
theorem un:d8 9 (al ⟨#[]⟩) 1 16:=by unfold d8;kernel_rfl
def nh (l:List W)(w:O)(e:aO)(b:O):Prop:= ∃a,e=aw (D (U ⟨a,0,none⟩) l.length l.length)/\Bx 9 b a l/\V w b
theorem De {s:ByteArray}(d:Y (Lib.countByte s.data.toList 44=0))(c:Y (s.size<=100/\1<=s.size))(w:O):aj ae 221 #[al s,al ⟨#[44]⟩,H I 0,H I (-1)] w (nh [al s] w):=by
 have i:=c.out;have kw:IntKind.i64.wrap ((s.size:Int)+1)=(s.size:Int)+1:=IntWalk.i64_in _ (by omega);have j:min (1:Int) ((s.size:Int)+1)=1:=by omega
 go_enter func221,ntmps221;go_wp2_with(first|(at_make;go_loud (refine um underlying300 un (by decide) rfl _ _ rfl 1 rfl rfl rfl (by decide) ?_))|(go_at_call 234;refine(ug _ _ _).mono ?_;rintro b e ⟨rfl,rfl⟩;rw[d.out])|(go_at_call 206;refine(pK _ _ _).mono ?_;rintro b e ⟨rfl,rfl⟩));intro w1 hb u1;have a:Bx 9 w1 w.heap.size [al ⟨#[]⟩]:=by simpa[madeCells,List.range_succ]using hb
 clear hb;have f:=a.c1;have g:=a.free 0;go_wp2;refine wp_loop_rounds 1 ?_;rw[a9];go_wp2;go_ret;exact⟨_,rfl,a.set 0 (al s),u1.setCell (p:=⟨_,0,none⟩) (a8 _) _⟩
theorem Df {s u v:ByteArray}(e:Y (Lib.countByte s.data.toList 44=1))(c:Y (Lib.indexByte s.data.toList 44=i))(f:Y (s.extract 0 i=u))(g:Y (s.extract (i+1) s.size=v))(d:Y (s.size<=100/\i<s.size))(w:O):aj ae 221 #[al s,al ⟨#[44]⟩,H I 0,H I (-1)] w (nh [al u,al v] w):=by
 have n:=d.out;have o:(i:Int)+1<=s.size:=by omega
 have q:(i:Int)<=s.size:=by omega
 have kw:IntKind.i64.wrap ((s.size:Int)+1)=(s.size:Int)+1:=IntWalk.i64_in _ (by omega);have t:IntKind.i64.wrap ((i:Int)+1)=(i:Int)+1:=IntWalk.i64_in _ (by omega);have r:min (2:Int) ((s.size:Int)+1)=2:=by omega
 go_enter func221,ntmps221;go_wp2_with(first|(at_make;go_loud (refine um underlying300 un (by decide) rfl _ _ rfl 2 rfl rfl rfl (by decide) ?_))|(go_at_call 234;refine(ug _ _ _).mono ?_;rintro b j ⟨rfl,rfl⟩;rw[e.out]));intro w1 hb u1;have a:Bx 9 w1 w.heap.size [al ⟨#[]⟩,al ⟨#[]⟩]:=by simpa[madeCells,List.range_succ]using hb
 clear hb;have k:=a.c2;have l:=a.free 0;have m:=a.free 1;go_wp2;refine wp_loop_rounds 2 ?_;rw[a9];go_wp2_with(go_at_call 206;refine(pK _ _ _).mono ?_;rintro b j ⟨rfl,rfl⟩;rw[c.out]);rw[a9];go_wp2;rw[f.out,g.out];go_ret;exact⟨_,rfl,(a.set 0 (al u)).set 1 (al v),(u1.setCell (p:=⟨_,0,none⟩) (a8 _) _).setCell (p:=⟨_,1,none⟩) (a8 _) _⟩
theorem Dh {s:ByteArray}(d:Y (Lib.countByte s.data.toList 44=0))(c:Y (s.size<=100/\1<=s.size))(w:O):aj ae 209 #[al s,al ⟨#[44]⟩] w (nh [al s] w):=by
 go_enter func209,ntmps209;go_wp2_with fail;refine(De d c w).mono ?_;rintro f g ⟨b,rfl,a,e⟩;go_wp2;go_ret;exact⟨b,rfl,a,e⟩
theorem Di {s u v:ByteArray}(e:Y (Lib.countByte s.data.toList 44=1))(c:Y (Lib.indexByte s.data.toList 44=i))(f:Y (s.extract 0 i=u))(g:Y (s.extract (i+1) s.size=v))(d:Y (s.size<=100/\i<s.size))(w:O):aj ae 209 #[al s,al ⟨#[44]⟩] w (nh [al u,al v] w):=by
 go_enter func209,ntmps209;go_wp2_with fail;refine(Df e c f g d w).mono ?_;rintro j k ⟨b,rfl,a,u⟩;go_wp2;go_ret;exact⟨b,rfl,a,u⟩
def ix (qs:List Rat)(w:O)(e:aO)(b:O):Prop:= ∃a,e=aw (aY #[a,af #[H I 0,H I 0,H I 0,H I 0]])/\aL 1 w b a qs/\(qs=[]->a=D none 0 0)/\V w b
theorem Bx.app {P:O->W->α->Prop}{base:Nat}{qs:List α}(h:Bx S w g vs)(c:aA P T base w v qs)(a:w.grownBy ab v.ownBlock)(b:T≠S):Bx S ab g vs:=(a.block g h.lt (λe=>eu c h b e.symm)).trans h
theorem Dj {s:ByteArray}(W:Y (Lib.countByte s.data.toList 44=0))(I:Y (s.size<=100/\1<=s.size))(T:Y ((s.toList==[])=false))(U:Y (∀w,aj ae 207 #[al s] w (hj q w)))(h1:Y (E.Lq q 1))(w:O):aj ae 186 #[al s] w (ix [q] w):=by
 have az:=I.out;have ay:=T.out;have kw:IntKind.i64.wrap ((s.size:Int)+1)=(s.size:Int)+1:=IntWalk.i64_in _ (by omega);go_enter func186,ntmps186;go_wp2_with fail;generalize e:ah w _=ak at*;obtain⟨b,a⟩:=aC e;clear e;have i:=a.c4;have t:=a.free;refine(Dh W I _).mono ?_;rintro v B ⟨ax,rfl,c,u1⟩;replace b:=b.trans u1;replace a:=a.up u1;clear u1;have i:=a.c4;have t:=a.free;have g:=c.c1;go_wp2;refine wp_loop_rounds 2 ?_;have d:aL 1 w B (D none 0 0) []:=aA.nil _ _ _ _;rw[a9];go_wp2_with fail
 with_reducible refine(U.out B).mono ?_
 rintro v Q ⟨ai,rfl,p,u61⟩;clear g;revert c b a d;refine bf u61 ?_;intro c b a d;replace i:=a.c4;replace t:=a.free;have g:=c.c1;clear u61;obtain⟨an,aq,rfl,p,pd⟩:=p;obtain⟨Ap,o,m,rfl⟩:=p.shape;obtain⟨j,r,n,rfl⟩:=pd.shape;have X:=a.d4;have aa:=a.fa;have R:=cA g;have Z:=λM N=>(a.up (((V.refl _).alloc M).alloc N)).c4
 have ab:=a.eE;have S:=jo g;go_upto_region 12 with fail
 clear X aa R Z ab S;generalize e:ah (ah Q _) _=f at*;obtain⟨K,F,H⟩:=br e;clear e;have aB:=a.lt;have au:=c.lt;have aD:=a.lt;have av:=c.lt;clear g;revert c b a d p pd;refine bO K ?_;intro c b a d p pd;replace i:=a.c4;replace t:=a.free;have g:=c.c1;clear K;have ar:=F.c3;have aw:=H.c4;have l:Y (aL 1 w (f.alloc (ao #[J (E.aB q.num),D Ap o m,D j r n] 53)) (D none 0 0) []):=G (d.up ((V.refl f).alloc _));have x:Y (Qk 1 (f.alloc (ao #[J (E.aB q.num),D Ap o m,D j r n] 53)) (af #[J (E.aB q.num),D Ap o m,D j r n]) q):=G ⟨Qw.up ⟨_,_,rfl,p,pd⟩ ((V.refl f).alloc _),h1.out⟩;have y:=G (b.alloc (ao #[J (E.aB q.num),D Ap o m,D j r n] 53));go_wp2_with(at_builtin;refine fR (aR _) underlying44 d7 (w0:=w) rfl _ _ rfl rfl l.out y.out rfl (heap_alloc_new f _) x.out (by simp) ?_;intro P C z L u A);replace a:=(a.up ((V.refl f).alloc _)).app l.out u (by decide);replace c:=(c.up ((V.refl f).alloc _)).app l.out u (by decide);clear l x y u L d b p pd F H g;rw[a9];have b:=A;have i:=a.c4;have t:=a.free;clear A;have d:aL 1 w C P [q]:=z;clear z;go_wp2_with fail;generalize e:ag (ag (ag (ag C _ _) _ _) _ _) _ _=am at*;have k:=bp a e;clear e;replace d:=d.bs k;replace a:=k.new;replace b:=b.bs k;clear k;replace i:=a.c4;exact a4 (fl rfl rfl bM bN a rfl) rfl ⟨_,rfl,d,λv=>(by cases v),b⟩
theorem uo {s u v:ByteArray}{t:Rat}(aN:Y (Lib.countByte s.data.toList 44=1))(aI:Y (Lib.indexByte s.data.toList 44=i))(aP:Y (s.extract 0 i=u))(aQ:Y (s.extract (i+1) s.size=v))(aJ:Y (s.size<=100/\i<s.size))(aK:Y (u.size<=100/\v.size<=100))(aH:Y ((s.toList==[])=false))(aM:Y (∀w,aj ae 207 #[al u] w (hj q w)))(aO:Y (∀w,aj ae 207 #[al v] w (hj t w)))(h1:Y (E.Lq q 1))(h2:Y (E.Lq t 1))(w:O):aj ae 186 #[al s] w (ix [q,t] w):=by
 have a1:=aK.out;have aZ:=aH.out;have kw:IntKind.i64.wrap ((u.size:Int)+1)=(u.size:Int)+1:=IntWalk.i64_in _ (by omega);have a2:IntKind.i64.wrap ((v.size:Int)+1)=(v.size:Int)+1:=IntWalk.i64_in _ (by omega);have a3:IntKind.i64.wrap ((u.size:Int)+1+((v.size:Int)+1))=(u.size:Int)+1+((v.size:Int)+1):=IntWalk.i64_in _ (by omega);go_enter func186,ntmps186;go_wp2_with fail;generalize f:ah w _=aW at*;obtain⟨c,a⟩:=aC f;clear f;have o:=a.c4;have y:=a.free;refine(Di aN aI aP aQ aJ _).mono ?_;rintro I ak ⟨aY,rfl,b,u1⟩;replace c:=c.trans u1;replace a:=a.up u1;clear u1;have o:=a.c4;have y:=a.free;have e:=b.c2;go_wp2;refine wp_loop_rounds 3 ?_;have d:aL 1 w ak (D none 0 0) []:=aA.nil _ _ _ _;rw[a9];go_wp2_with fail
 with_reducible refine(aM.out ak).mono ?_
 rintro I aw ⟨aU,rfl,p,u61⟩;clear e;revert b c a d;refine bf u61 ?_;intro b c a d;replace o:=a.c4;replace y:=a.free;have e:=b.c2;clear u61;obtain⟨ay,az,rfl,p,pd⟩:=p;obtain⟨Ap,m,k,rfl⟩:=p.shape;obtain⟨g,n,l,rfl⟩:=pd.shape;have U:=a.d4;have X:=a.fa;have R:=ez e;have W:=λP Q=>(a.up (((V.refl _).alloc P).alloc Q)).c4
 have Z:=a.eE;have S:=f1 e;go_upto_region 12 with fail
 clear U X R W Z S;generalize f:ah (ah aw _) _=r at*;obtain⟨F,B,C⟩:=br f;clear f;have aS:=a.lt;have aD:=b.lt;have aT:=a.lt;have aE:=b.lt;clear e;revert b c a d p pd;refine bO F ?_;intro b c a d p pd;replace o:=a.c4;replace y:=a.free;have e:=b.c2;clear F;have aB:=B.c3;have aG:=C.c4;have j:Y (aL 1 w (r.alloc (ao #[J (E.aB q.num),D Ap m k,D g n l] 53)) (D none 0 0) []):=G (d.up ((V.refl r).alloc _));have z:Y (Qk 1 (r.alloc (ao #[J (E.aB q.num),D Ap m k,D g n l] 53)) (af #[J (E.aB q.num),D Ap m k,D g n l]) q):=G ⟨Qw.up ⟨_,_,rfl,p,pd⟩ ((V.refl r).alloc _),h1.out⟩;have A:=G (c.alloc (ao #[J (E.aB q.num),D Ap m k,D g n l] 53));go_wp2_with(at_builtin;refine fR (aR _) underlying44 d7 (w0:=w) rfl _ _ rfl rfl j.out A.out rfl (heap_alloc_new r _) z.out (by simp) ?_;intro au am N aq L ab);replace a:=(a.up ((V.refl r).alloc _)).app j.out L (by decide);replace b:=(b.up ((V.refl r).alloc _)).app j.out L (by decide);clear j z A L aq d c p pd B C e;have c:=ab;obtain⟨K,T,(aF:au=D K 1 T)⟩:=aA.form N;subst aF;have d:aL 1 w am (D K 1 T) [q]:=N;clear ab N;have o:=a.c4;have y:=a.free;have e:=b.c2;rw[a9];go_wp2_with fail
 with_reducible refine(aO.out am).mono ?_
 rintro I ax ⟨aV,rfl,p,u81⟩;clear e;revert a b c d;refine bf u81 ?_;intro a b c d;replace o:=a.c4;replace y:=a.free;have e:=b.c2;clear u81;obtain⟨ay,az,rfl,p,pd⟩:=p;obtain⟨Ap,m,k,rfl⟩:=p.shape;obtain⟨g,n,l,rfl⟩:=pd.shape;have U:=a.d4;have X:=a.fa;have R:=ez e;have W:=λP Q=>(a.up (((V.refl _).alloc P).alloc Q)).c4
 have Z:=a.eE;have S:=f1 e;go_upto_region 12 with fail
 clear U X R W Z S;generalize f:ah (ah ax _) _=x at*;obtain⟨F,B,C⟩:=br f;clear f;have aS:=a.lt;have aD:=b.lt;have aT:=a.lt;have aE:=b.lt;clear e;revert a b c d p pd;refine bO F ?_;intro a b c d p pd;replace o:=a.c4;replace y:=a.free;have e:=b.c2;clear F;have aB:=B.c3;have aG:=C.c4;have j:Y (aL 1 w (x.alloc (ao #[J (E.aB t.num),D Ap m k,D g n l] 53)) (D K 1 T) [q]):=G (d.up ((V.refl x).alloc _));have z:Y (Qk 1 (x.alloc (ao #[J (E.aB t.num),D Ap m k,D g n l] 53)) (af #[J (E.aB t.num),D Ap m k,D g n l]) t):=G ⟨Qw.up ⟨_,_,rfl,p,pd⟩ ((V.refl x).alloc _),h2.out⟩;have A:=G (c.alloc (ao #[J (E.aB t.num),D Ap m k,D g n l] 53));go_wp2_with(at_builtin;refine fR (aR _) underlying44 d7 (w0:=w) rfl _ _ rfl rfl j.out A.out rfl (heap_alloc_new x _) z.out (by simp) ?_;intro av an aa ar M ai);replace a:=(a.up ((V.refl x).alloc _)).app j.out M (by decide);replace b:=(b.up ((V.refl x).alloc _)).app j.out M (by decide);clear j z A M ar d c p pd B C e;rw[a9];have c:=ai;have o:=a.c4;have y:=a.free;clear ai;have d:aL 1 w an av [q,t]:=aa;clear aa;go_wp2_with fail;generalize f:ag (ag (ag (ag an _ _) _ _) _ _) _ _=aX at*;have H:=bp a f;clear f;replace d:=d.bs H;replace a:=H.new;replace c:=c.bs H;clear H;replace o:=a.c4;exact a4 (fl rfl rfl bM bN a rfl) rfl ⟨_,rfl,d,λI=>(by cases I),c⟩
theorem hk {c:W}(x:W)(hb:Bx T w g vs)(d:vs[i]? =U c)(b:dA c):Gb g w (w.setCell ⟨g,i,none⟩ x):=
 ⟨⟨rfl,rfl,rfl,by simp[ag],λj f e=>Below.heap_setCell _ _ _ _ (by simp;exact λa=>e (by rw[a]))⟩,Kw.store hb d b x⟩
def Rd (w:O)(g:Nat)(s:ByteArray)(at_:Int)(o:Bool):Prop:=Bx 243 w g [al s,H I at_,J o]
def jw (g:Nat)(a b:ByteArray)(i j:Int)(o:Bool)(w:O)(e:aO)(c:O):Prop:=e=aw (aY #[al a,H I i,J true])/\Rd c g b j o/\Gb g w c
theorem kJ {s a b:ByteArray}(p:Rd w g s at_ false)(n:Y (Lib.indexByte s.data.toList 10=i))(l:Y (i<s.size/\s.size<=1000))(ha:Y (s.extract 0 i=a))(hb:Y (s.extract (i+1) s.size=b))(o:Y (a.size=i))(h0:0<=at_/\at_<=1000):
 aj ae 156 #[az (U ⟨g,0,none⟩)] w (jw g a b at_ (at_+i+1) false w):=by
 have d:Bx 243 w g [al s,H I at_,J false]:=p;obtain⟨k,c1,c2⟩:=d.c3;have z:=l.out;have kw:IntKind.i64.wrap (at_+(i:Int))=at_+i:=IntWalk.i64_in _ (by omega)
 have B:IntKind.i64.wrap (at_+(i:Int)+1)=at_+i+1:=IntWalk.i64_in _ (by omega)
 go_enter func156,ntmps156;go_wp2_with fail;refine(pJ n l ha hb w).mono ?_;rintro u w1 ⟨rfl,m⟩;have c:=d.up m;clear k c1 c2;obtain⟨k,c1,c2⟩:=c.c3;have v:=c.free 0;have x:=c.free 1;have y:=c.free 2;have A:=o.out;go_wp2;have q:=hk (i:=0) (al b) c rfl trivial;have e:=c.set 0 (al b);have r:=hk (i:=2) (J false) e rfl trivial;have f:=e.set 2 (J false);have p3:=hk (i:=1) (H I (at_+i)) f rfl trivial;have j:=f.set 1 (H I (at_+i));have t:=hk (i:=1) (H I (at_+i+1)) j rfl trivial
 go_ret3
 exact⟨rfl,j.set 1 (H I (at_+i+1)),(Gb.up m).trans (q.trans (r.trans (p3.trans t)))⟩
theorem Dk {s:ByteArray}(f:Rd w g s at_ false)(d:Y (Lib.indexByte s.data.toList 10= -1))(e:Y (s.size<=1000))(h0:0<=at_/\at_<=1000):
 aj ae 156 #[az (U ⟨g,0,none⟩)] w (jw g s ⟨#[]⟩ at_ (at_+s.size) true w):=by
 have a:Bx 243 w g [al s,H I at_,J false]:=f;obtain⟨l,c1,c2⟩:=a.c3;have q:=e.out;have kw:IntKind.i64.wrap (at_+(s.size:Int))=at_+s.size:=IntWalk.i64_in _ (by omega)
 have n:=a.free 0;have o:=a.free 1;have p:=a.free 2;go_enter func156,ntmps156;go_wp2_with fail;refine(C2 d w).mono ?_;rintro m w1 ⟨rfl,rfl⟩;go_wp2;have j:=hk (i:=0) (al ⟨#[]⟩) a rfl trivial;have b:=a.set 0 (al ⟨#[]⟩);have k:=hk (i:=2) (J true) b rfl trivial;have c:=b.set 2 (J true);have p3:=hk (i:=1) (H I (at_+s.size)) c rfl trivial
 go_ret3
 exact⟨rfl,c.set 1 (H I (at_+s.size)),j.trans (k.trans p3)⟩
theorem Dl {s t b:ByteArray}{o:Bool}(l:Rd w g s at_ o)(j:Y (k<=t.size))(hb:Y (t.extract k t.size=b)):
 aj ae 183 #[az (U ⟨g,0,none⟩),al t,H I (k:Int)] w λe f=>e=aw (aY #[])/\Rd f g b k false/\Gb g w f:=by
 have a:Bx 243 w g [al s,H I at_,J o]:=l;obtain⟨p,c1,c2⟩:=a.c3;have q:=a.free 0;have r:=a.free 1;have u:=a.free 2;have v:=j.out;have x:(k:Int)<=t.size:=by omega
 go_enter func183,ntmps183;go_wp2;rw[hb.out];have m:=hk (i:=0) (al b) a rfl trivial;have c:=a.set 0 (al b);have n:=hk (i:=1) (H I k) c rfl trivial;have d:=c.set 1 (H I k);have p3:=hk (i:=2) (J false) d rfl trivial
 go_end0
 exact⟨rfl,d.set 2 (J false),m.trans (n.trans p3)⟩
theorem uq (k:Int)(w:O):aj ae 187 #[af #[H I 0,H I 0,H I 0,H I 0],H I k] w λe f=>e=aw (af #[H I 0,H I 0,H I 0,H I 0])/\V w f:=by
 go_enter func187,ntmps187;go_wp2_with fail;generalize b:ah (ah w _) _=g at*;obtain⟨c,d,a⟩:=br b;clear b;have i:=d.c4;have j:=a.c4;have l:=a.free;exact a4 (cl rfl rfl bM bN a rfl) rfl ⟨rfl,c⟩
theorem Dm (w:O):aj ae 186 #[al ⟨#[]⟩] w (ix [] w):=by
 go_enter func186,ntmps186;go_wp2_with fail;generalize b:ah w _=d at*;obtain⟨c,a⟩:=aC b;clear b;have e:=a.c4;have f:=a.free;exact a4 (fl rfl rfl bM bN a rfl) rfl ⟨_,rfl,aA.nil _ _ _ _,λ_=>rfl,c⟩
theorem Dn {fn:Func}{tmps:Array W}{t u t':Tmp}{dw iU:an}{bI gP:Nat}{cs e9:List W}(o:fn.results=#[.cell t T,.tmp u,.cell t' dw])(p:tmps.getD t undef=az (U ⟨g,0,none⟩))(q:tmps.getD t' undef=az (U ⟨bI,0,none⟩))
 (i:∀w:O,(ct T).run ae w= .ok true w)(e:∀w:O,(ci T).run ae w= .ok n w)(j:∀w:O,(ct dw).run ae w= .ok true w)(f:∀w:O,(ci dw).run ae w= .ok gP w)(hb:Bx S w g cs)(l:cs.length=n)(k:Bx iU w bI e9)(m:e9.length=gP):
 (results fn tmps).run ae w= .ok (aY #[af cs.toArray,tmps.getD u undef,af e9.toArray]) w:=by
 have c:=gO i e hb l;have d:=gO j f k m;have a:tmps[t]?.getD undef=az (U ⟨g,0,none⟩):=by simpa using p
 have b:tmps[t']?.getD undef=az (U ⟨bI,0,none⟩):=by simpa using q
 simp[results,o,a,b,c,d,asAddr]
theorem aL.eF (h:aL k w0 w v qs)(b:Bs T g w ab old new)(a:v.ownBlock≠U g):aL k w0 ab v qs:=o8 (aR k) h b a
def kK (q:Rat)(qs:List Rat)(w:O)(e:aO)(b:O):Prop:= ∃c a,e=aw (aY #[c,a,af #[H I 0,H I 0,H I 0,H I 0]])/\Qw b c q/\aL 1 w b a qs/\(qs=[]->a=D none 0 0)/\V w b
theorem ur {s a b:ByteArray}{k:Int}(aC:Y (Lib.indexByte s.data.toList 124=i))(aE:Y (i<s.size/\s.size<=1000))(ha:Y (s.extract 0 i=a))(hb:Y (s.extract (i+1) s.size=b))(aF:Y (a.size<=100))(a6:0<=k/\k<=1000)
 (aG:Y (∀w,aj ae 207 #[al a] w (hj q w)))(aI:Y (∀w,aj ae 186 #[al b] w (ix qs w))):aj ae 184 #[al s,H I k] w (kK q qs w):=by
 have a8:=aF.out;have kw:IntKind.i64.wrap (k+(a.size:Int))=k+a.size:=IntWalk.i64_in _ (by omega);have a9:IntKind.i64.wrap (k+(a.size:Int)+1)=k+a.size+1:=IntWalk.i64_in _ (by omega);go_enter func184,ntmps184;go_wp2_with fail;generalize m:ah (ah w _) _=aq at*;obtain⟨f,d,c⟩:=br m;clear m;have n:=d.c3;have o:=d.free;have r:=c.c4;have t:=c.free;go_wp2_with fail
 with_reducible refine(pJ aC aE ha hb aq).mono ?_
 rintro B ar ⟨rfl,u1⟩;revert f d c n;refine bf u1 ?_;intro f d c n;replace o:=d.free;replace r:=c.c4;replace t:=c.free;clear u1;go_wp2_with fail
 with_reducible refine(aG.out ar).mono ?_
 rintro B L ⟨aU,rfl,p,u2⟩;revert f d c n;refine bf u2 ?_;intro f d c n;replace o:=d.free;replace r:=c.c4;replace t:=c.free;clear u2;obtain⟨aY,a1,rfl,p,pd⟩:=p;obtain⟨Ap,aJ,ay,rfl⟩:=p.shape;obtain⟨am,aK,az,rfl⟩:=pd.shape;have aM:=d.d3;have aO:=d.fa;have aQ:=c.d4;have aS:=c.fa;have aN:=λF K=>(d.up (((V.refl _).alloc F).alloc K)).c3
 have aP:=d.eE;have aR:=λF K=>(c.up (((V.refl _).alloc F).alloc K)).c4
 have aT:=c.eE;go_wp2_with fail;clear aM aO aQ aS aN aP aR aT;generalize m:ah (ah L _) _=au at*;obtain⟨af,j,g⟩:=br m;clear m;have ba:=d.lt;have bd:=c.lt;have bb:=d.lt;have bg:=c.lt;revert f d c n p pd;refine bO af ?_;intro f d c n p pd;replace o:=d.free;replace r:=c.c4;replace t:=c.free;clear af;have x:=j.c3;have y:=g.c4;have a7:=d.lt;refine(aI.out au).mono ?_;rintro B Z ⟨X,rfl,l,C,u1⟩;replace C:=G C;revert j g d c p pd;refine bO u1 ?_;intro j g d c p pd;have ao:=f
 have an:X.ownBlock≠U w.heap.size:=λB=>by
  have a5:=(aA.lt l _ B).1;omega
 have l:aL 1 w Z X qs:=aA.weaken l ao.size;replace f:=f.trans u1;clear u1;have n:=d.c3;have o:=d.free;have r:=c.c4;have t:=c.free;have x:=j.c3;have y:=g.c4;have a2:=g.free;go_wp2_with fail;generalize m:ag (ag (ag (ag Z _ _) _ _) _ _) _ _=ab at*;have e:=bp g m;clear m;replace p:=p.kw e.kw;replace pd:=pd.kw e.kw;replace l:=l.bs e;replace d:=d.bs e;replace c:=c.bs e;replace j:=j.bs e;replace g:=e.new;replace f:=f.bs e;clear e;replace n:=d.c3;replace o:=d.free;replace r:=c.c4;replace t:=c.free;replace x:=j.c3;replace y:=g.c4;revert p pd l d c j g f n;refine bE (V.refl ab).drew ?_;intro p pd l d c j g f n;replace o:=d.free;replace r:=c.c4;replace t:=c.free;replace x:=j.c3;replace y:=g.c4;refine aZ ?_;refine a3 (S:=λW=>V w W/\Cz W (L.heap.size) 0 [J (E.aB q.num),D Ap aJ ay,D am aK az]/\Cz W (L.heap.size+1) 0 [H I 0,H I 0,H I 0,H I 0]) (by kernel_rfl) (by exact⟨f,j.cz,g.cz⟩) (λv=> ?_);generalize ab.drew=z at*;refine aa 0 ?_;refine aa 1 ?_;refine aa 2 ?_;refine aa 3 ?_;refine aa 4 ?_;refine aa 5 ?_;refine aa 6 ?_;refine aa 7 ?_
 repeat' first
  |(have u:=aH;clear aH
    (try clear v)
    go_simp;go_at_call 187
    with_reducible refine(uq _ _).mono ?_
    rintro B z ⟨rfl,ai⟩;revert p pd l d c j g f;refine b9 ai ?_;intro p pd l d c j g f
    replace o:=d.free;replace n:=d.c3;replace t:=c.free;replace r:=c.c4;replace x:=j.c3;replace y:=g.c4;clear ai
    try go_wp2_with fail
    refine ax u (by exact⟨f,j.cz,g.cz⟩) (λv=> ?_);clear u A)
  |(have u:=aV;clear aV
    (try clear v)
    have M:=d.k 0;have N:=d.k 1;have P:=d.k 2;have Q:=d.free 0;have R:=d.free 1;have T:=d.free 2;go_simp;clear M N P Q R T;generalize m:ag (ag (ag z _ _) _ _) _ _=z at*;have e:=dh d m;clear m;replace p:=p.kw e.kw;replace pd:=pd.kw e.kw;replace l:=l.eF e an;replace c:=c.bs e;replace j:=j.bs e;replace g:=g.bs e;replace d:=e.new;replace f:=f.bs e;clear e;replace o:=d.free;replace n:=d.c3;replace t:=c.free;replace r:=c.c4;replace x:=j.c3;replace y:=g.c4;refine ax u (by exact⟨f,j.cz,g.cz⟩) (λv=> ?_);clear u A)
  |(have u:=aD;clear aD
    (try clear v)
    have M:=c.k 0;have N:=c.k 1;have P:=c.k 2;have aw:=c.k 3;have Q:=c.free 0;have R:=c.free 1;have T:=c.free 2;have aB:=c.free 3;go_simp;clear M N P aw Q R T aB;generalize m:ag (ag (ag (ag z _ _) _ _) _ _) _ _=z at*;have e:=bp c m;clear m;replace p:=p.kw e.kw;replace pd:=pd.kw e.kw;replace l:=l.bs e (by decide);replace d:=d.bs e;replace j:=j.bs e;replace g:=g.bs e;replace c:=e.new;replace f:=f.bs e;clear e;replace o:=d.free;replace n:=d.c3;replace t:=c.free;replace r:=c.c4;replace x:=j.c3;replace y:=g.c4;refine ax u (by exact⟨f,j.cz,g.cz⟩) (λv=> ?_);clear u A)
  |(with_reducible show b5 _ _ _ _ _ _ _ _ _ _
    first
     |refine av (i:=8) rfl (λA aH=> ?_) ?_
     |refine av (i:=9) rfl (λA aV=> ?_) ?_
     |refine av (i:=11) rfl (λA aD=> ?_) ?_
     |exact bm)
  |(with_reducible show bJ _ _ _ _ _ _ _ _ _
    first
     |refine ak [8] ?_
     |refine ak [9] ?_
     |refine ak [11] ?_
     |refine aa 10 ?_
     |refine aW (by decide +kernel) (aX ?_) _)
  |fail
 all_goals try clear v
 all_goals
  go_wp2;exact a4 (Dn rfl rfl rfl g6 g7 bM bN d rfl c rfl) rfl ⟨_,_,rfl,⟨_,_,rfl,p,pd⟩,l,C.out,f⟩
theorem Gb.bs (h:Gb g w w1)(b:Bs T r w1 ab old new)(d:w.heap.size<=r):Gb g w ab:=
 ⟨⟨b.gr.os.trans h.1.os,b.gr.tape.trans h.1.tape,b.gr.output.trans h.1.output,aQ h.1.size b.gr.size,λj a c=>(b.gr.block j (Nat.lt_of_lt_of_le a h.1.size) (λe=>by cases e;omega)).trans (h.1.block j a c)⟩,h.2.trans b.kw⟩
def Do (g:Nat)(b:ByteArray)(j:Int)(o:Bool)(qs:List Rat)(w:O)(e:aO)(a:O):Prop:= ∃c,e=aw (aY #[c,af #[H I 0,H I 0,H I 0,H I 0]])/\aF 1 a c qs/\Rd a g b j o/\Gb g w a
theorem ut {c:UInt8}{s a b r:ByteArray}{i:Int}{o:Bool}(u:Rd w g s at_ false)(y:Y (∀w,Rd w g s at_ false->aj ae 156 #[az (U ⟨g,0,none⟩)] w (jw g a b i j o w)))
 (z:Y (∀w,aj ae 185 #[al a,al ⟨#[c,32]⟩] w λe x=>e=aw (aY #[al r,J true])/\w=x))(A:Y (∀w,aj ae 186 #[al r] w (ix qs w)))(L:0<=i/\i<=1000):aj ae 158 #[az (U ⟨g,0,none⟩),al ⟨#[c]⟩] w (Do g b j o qs w):=by
 have K:=Bx.lt u;have kw:IntKind.i64.wrap (i+1)=i+1:=IntWalk.i64_in _ (by omega);have M:IntKind.i64.wrap (i+1+1)=i+1+1:=IntWalk.i64_in _ (by omega);have l:=Bx.new 63 w [H I 0,H I 0,H I 0,H I 0];have v:=Bx.up u ((V.refl w).alloc (ao #[H I 0,H I 0,H I 0,H I 0] 63));have d:=Gb.up (g:=g) ((V.refl w).alloc (ao #[H I 0,H I 0,H I 0,H I 0] 63));go_enter func158,ntmps158;go_wp2_with fail;refine(y.out _ v).mono ?_;rintro e w1 ⟨rfl,t,m⟩;replace l:=m.bx l (by omega);replace d:=d.trans m;clear v m;go_wp2_with(go_at_call 185;refine(z.out w1).mono ?_;rintro e x ⟨rfl,rfl⟩);refine(A.out w1).mono ?_;rintro e w2 ⟨C,rfl,n,_,u2⟩;have B:=l.up u2;have R2:=Bx.up t u2;replace n:=n.a;replace d:=d.trans (Gb.up u2);clear l t u2;have f:=B.up ((V.refl w2).alloc (ao #[H I 0,H I 0,H I 0,H I 0] 63));have p:=n.up ((V.refl w2).alloc (ao #[H I 0,H I 0,H I 0,H I 0] 63));have q:=Bx.up R2 ((V.refl w2).alloc (ao #[H I 0,H I 0,H I 0,H I 0] 63));replace d:=d.trans (Gb.up ((V.refl w2).alloc (ao #[H I 0,H I 0,H I 0,H I 0] 63)));go_wp2_with fail;refine(uq _ _).mono ?_;rintro e w3 ⟨rfl,u3⟩;replace f:=f.up u3;replace p:=p.up u3;replace q:=Bx.up q u3;replace d:=d.trans (Gb.up u3);obtain⟨N,P,Q,R⟩:=f.c4;have D:=f.free 0;have E:=f.free 1;have F:=f.free 2;have G:=f.free 3;go_wp2;have k:=dK [H I 0,H I 0,H I 0,H I 0] 0 f rfl (Nat.le_of_ble_eq_true rfl);exact a4 (fl rfl rfl bM bN k.new rfl) rfl ⟨_,rfl,p.bs k (by decide),Bx.bs q k (by omega),d.bs k (a8 _)⟩
structure ej (g h:Nat) (w ab:O):Prop where
 os:ab.os=w.os
 tape:ab.tape=w.tape
 output:ab.output=w.output
 size:w.heap.size<=ab.heap.size
 block:∀k,k<w.heap.size->k≠g->k≠h->ab.heap[k]? =w.heap[k]?
 kw:Kw w ab
theorem ej.refl (g h:Nat)(w:O):ej g h w w:=⟨rfl,rfl,rfl,a8 _,λ_ _ _ _=>rfl,Kw.refl w⟩
theorem ej.up {h:Nat}(a:ej g h w w1)(u:V w1 ab):ej g h w ab:=
 ⟨u.os.trans a.os,u.tape.trans a.tape,u.output.trans a.output,aQ a.size u.size,λk b h1 h2=>(u.heap (Nat.lt_of_lt_of_le b a.size)).trans (a.block k b h1 h2),a.kw.trans u.kw⟩
instance ej.bW {g h:Nat} {w w1 ab:O}:Lu (V w1 ab) (ej g h w w1) (ej g h w ab):=bu λu h=>h.up u
theorem ej.gr {h:Nat}(a:ej g h w w1)(b:w1.grownBy ab row)(k:Kw w1 ab)(f:∀j,row=U j->j=g\/j=h\/w.heap.size<=j):ej g h w ab:=
 ⟨b.os.trans a.os,b.tape.trans a.tape,b.output.trans a.output,aQ a.size b.size,λj d h1 h2=>(b.block j (Nat.lt_of_lt_of_le d a.size) (λe=>by
   rcases f j e.symm with c|c|c
   .exact h1 c
   .exact h2 c
   .omega)).trans (a.block j d h1 h2),a.kw.trans k⟩
theorem ej.bs {h:Nat}(a:ej g h w w1)(b:Bs T r w1 ab old new)(c:r=g\/r=h\/w.heap.size<=r):ej g h w ab:=a.gr b.gr b.kw (λj e=>by cases e;exact c)
theorem ej.du {h:Nat}(a:ej g h w ab)(b:V w0 w)(d:w0.heap.size<=g)(e:w0.heap.size<=h):V w0 ab:=
 ⟨a.os.trans b.os,a.tape.trans b.tape,a.output.trans b.output,aQ b.size a.size,λk c=>(a.block k (Nat.lt_of_lt_of_le c b.size) (by omega) (by omega)).trans (b.block k c)⟩
theorem ej.bx {h:Nat}(a:ej g h w ab)(hb:Bx T w r vs)(h1:r≠g)(h2:r≠h):Bx T ab r vs:=(a.block r hb.lt h1 h2).trans hb
theorem Gb.hU (B:Gb g w ab)(d:Bx T w g old)(b:Bx T ab g new):Bs T g w ab old new:=
 ⟨d,b,B.2,B.1,λc hb=>B.bx hb c,λe a=>B.du e a⟩
theorem uu {eU:Type}{P:O->W->α->Prop}{Q:O->List W->eU->Prop}{b1 fu:Nat}{u:W}{qs:List α}{e:List eU}(h:aA P S b1 w v qs)(k:aP Q n T fu w u e)(b:S≠T):u.ownBlock=none\/u.ownBlock≠v.ownBlock:=by
 obtain⟨g,_,c⟩:=k;rcases c.2 with⟨rfl,_⟩|⟨f,i,rfl,_,d,_⟩
 .exact .inl rfl
 .exact .inr λa=>eu h d b a.symm
def ni (_:O)(x:List W)(l:List Rat):Prop:=x=[D none 0 0]/\l=[]
theorem uv:Kn 1 44 ni where
 kw:=λh _=>h
 ok:=λh=>by rw[h.1];exact⟨rfl,λv a=>by simp at a;subst a;exact⟨trivial,rfl⟩⟩
def eO (w0 w:O)(v:W)(a:List (List Rat)):Prop:=aP ni 1 44 w0.heap.size w v a
theorem eO.up {w0 w ab:O}{v:W}{ls:List (List Rat)}(h:eO w0 w v ls)(a:V w ab):eO w0 ab v ls:=aP.up uv h a
instance eO.bW {w0 w ab:O} {v:W} {ls:List (List Rat)}:Lu (V w ab) (eO w0 w v ls) (eO w0 ab v ls):=bu λu h=>h.up u
theorem eO.gr (h:eO w0 w v ls)(b:w.grownBy ab row)(a:v.ownBlock=none\/v.ownBlock≠row):eO w0 ab v ls:=by
 obtain⟨d,ha,c⟩:=h;exact⟨d,ha,c.kept b a⟩
theorem eO.bs (h:eO w0 w v ls)(b:Bs T g w ab old new)(a:44≠T:=by decide):eO w0 ab v ls:=h.gr b.gr (kE h b.old a)
theorem eO.rws (h:eO w0 w v ls):bk 1 w0 w v ls:=aP.imp h λ⟨e,a⟩=>⟨_,e,by rw[a];exact aA.nil _ _ _ _⟩
def Dp (g c k:Nat)(nm b:ByteArray)(qs:List Rat)(i:List (List Rat))(w:O)(e:aO)(a:O):Prop:= ∃f d,e=aw (af #[H I 0,H I 0,H I 0,H I 0])/\aL 1 w a f qs/\bk 1 w a d i/\Rd a g b (k:Int) false/\Bx 47 a c [al nm,f,d,D none 0 0,D none 0 0]/\ej g c w a
structure uw (g:Nat) (t s1 s2 s3 s4 a1 a2 bb b:ByteArray) (i1 i2:Int) (k:Nat) (j:Int) (q1 q2:Rat) (r:List Rat):Prop where
 l1:∀(w:O) (i:Int),Rd w g s1 i false->i=i1->aj ae 156 #[az (U ⟨g,0,none⟩)] w (jw g a1 s2 i1 i2 false w)
 l2:∀w,Rd w g s2 i2 false->aj ae 156 #[az (U ⟨g,0,none⟩)] w (jw g a2 s3 i2 k false w)
 l3:∀w,Rd w g s3 k false->aj ae 156 #[az (U ⟨g,0,none⟩)] w (jw g bb s4 k j false w)
 c1:decide (0<=Lib.indexByte a1.data.toList 124)=true
 c2:decide (0<=Lib.indexByte a2.data.toList 124)=true
 c3:decide (0<=Lib.indexByte bb.data.toList 124)=false
 zh:∀w,aj ae 184 #[al a1,H I i1] w (kK q1 [] w)
 lW:∀w,aj ae 184 #[al a2,H I i2] w (kK q2 r w)
 ux:k<=t.size/\t.extract k t.size=b
 lq:E.Lq q1 1/\E.Lq q2 1
theorem Dq {v u:W}{n:Nat}(d:∀j,v.ownBlock=U j->n<=j)(c:∀j,u.ownBlock=U j->j<n):v.ownBlock=none\/v.ownBlock≠u.ownBlock:=by
 cases b:v.ownBlock with
 |none=>exact .inl rfl
 |some j=>exact .inr λa=>absurd (d j b) (by have:=c j a.symm;omega)
theorem Dr {gs:Nat}{nm t bz b7 b8 bL bQ bR bS b:ByteArray}{i1 i2:Int}{q1 q2:Rat}{r:List Rat}(T:Y (uw g t bz b7 b8 bL bQ bR bS b i1 i2 k j q1 q2 r))(bt:Rd w g bz i1 false)(bu:Bx 47 w gs [al nm,D none 0 0,D none 0 0,D none 0 0,D none 0 0])(cm:g≠gs):
 aj ae 157 #[az (U ⟨g,0,none⟩),al t,az (U ⟨gs,0,none⟩)] w (Dp g gs k nm b [q1,q2] [[],r] w):=by
 have ck:=Bx.lt bt;have cn:=bu.lt;have c:=Bx.new 63 w [H I 0,H I 0,H I 0,H I 0];have u0:=(V.refl w).alloc (ao #[H I 0,H I 0,H I 0,H I 0] 63);have rd:Rd _ g bz i1 false:=Bx.up bt u0;have sc:=bu.up u0;have f:=(ej.refl g gs w).up u0;obtain⟨aF,aU,aO,bb⟩:∃a2 n bj,Y (D a2 n bj=D none 0 0):=⟨_,_,_,G rfl⟩;obtain⟨a5,bw,ar,ba⟩:∃a2 n bj,Y (D a2 n bj=D none 0 0):=⟨_,_,_,G rfl⟩;have d:aL 1 w (w.alloc (ao #[H I 0,H I 0,H I 0,H I 0] 63)) (D aF aU aO) []:=by rw[bb.out];exact aA.nil _ _ _ _
 have e:eO w (w.alloc (ao #[H I 0,H I 0,H I 0,H I 0] 63)) (D a5 bw ar) []:=by rw[ba.out];exact aP.nil _ _ _ _ _
 replace sc:Bx 47 (w.alloc (ao #[H I 0,H I 0,H I 0,H I 0] 63)) gs [al nm,D aF aU aO,D a5 bw ar,D none 0 0,D none 0 0]:=by rw[bb.out,ba.out];exact sc
 clear bu bt u0 bb ba;go_enter func157,ntmps157;go_wp2_with fail;refine wp_loop_rounds 3 ?_;rw[a9];go_wp2_with fail;refine(T.out.l1 _ _ rd rfl).mono ?_;rintro u w1 ⟨rfl,Q,W⟩;have a:=W.hU rd Q;replace c:=c.bs a (by omega);replace sc:=sc.bs a (by omega);replace f:=f.bs a (by omega);replace d:=d.bs a (by decide);replace e:=e.bs a (by decide);clear a W rd;have aS:=T.out.c1;go_wp2_with(go_at_call 182;refine(pL _ _ _).mono ?_;rintro u ai ⟨rfl,rfl⟩);clear aS;have bF:∀j,(D aF aU aO).ownBlock=U j->j<w1.heap.size:=λj ab=>(aA.lt d j ab).2
 refine(T.out.zh w1).mono ?_;rintro u w2 ⟨cf,ce,rfl,p,P,bG,u2⟩;replace c:=c.up u2;have rd:=Bx.up Q u2;revert sc f d e;refine bf u2 ?_;intro sc f d e;clear Q;obtain⟨bC,bV,m⟩:=fk (n:=0) (w:=w2) (bn _);have bW:=rd.lt;have bY:=sc.lt;have bX:=c.lt;obtain rfl:=bG rfl;clear u2;obtain⟨bO,bP,rfl,p,pd⟩:=p;obtain⟨Ap,aC,ay,rfl⟩:=p.shape;obtain⟨an,aD,aB,rfl⟩:=pd.shape;have aI:∀j,(D aF aU aO).ownBlock=U j->j<w2.heap.size:=λj ab=>(aA.lt d j ab).2
 go_upto_region 10 with fail
 generalize F:ah (ah w2 _) _=aE at*;obtain⟨o,l,z⟩:=br F;clear F;have bZ:=c.lt;have b9:=sc.lt;have b2:=rd.lt;have b0:=c.lt;have ca:=sc.lt;have b4:=rd.lt;revert c rd sc f d e m p pd;revert o;refine hV ?_;intro c rd sc f d e m p pd;have Z:=l.c3;obtain⟨aY,aJ⟩:∃n,Y (([]++[q1]:List Rat).length=n):=⟨_,G rfl⟩;have C:=sc.k 1;revert l z c rd sc f d e m p pd C;refine au (V.refl aE).drew ?_;intro l z c rd sc f d e m p pd C;replace Z:=l.c3;refine aZ ?_;refine a3 (S:=λai=>V bC ai/\Cz ai (w2.heap.size) 0 [J (E.aB q1.num),D Ap aC ay,D an aD aB]) (by kernel_rfl) (by exact⟨m,l.cz⟩) (λB=> ?_);generalize aE.drew=s at*;refine aa 0 ?_;refine aa 1 ?_;refine aa 2 ?_;refine aa 3 ?_;refine aa 5 ?_
 repeat' first
  |(have y:=bh;clear bh
    (try clear B)
    go_simp;refine ax y (by exact⟨m,l.cz⟩) (λB=> ?_);clear y M)
  |(have y:=bi;clear bi
    (try clear B)
    go_simp;have b1:=c.lt;have bB:=sc.lt;have b6:=rd.lt;have bT:=l.lt;have bU:=z.lt;have cb:=m.size;generalize aT:s.heap.size=bp at*;generalize F:ah s _=s at*;obtain⟨o,L⟩:=b3 F aT;clear F aT;revert l z c rd sc f d e m p pd C;refine au o ?_;intro l z c rd sc f d e m p pd C
    replace Z:=l.c3;clear o;refine ax y (by exact⟨m,l.cz⟩) (λB=> ?_);clear y M)
  |(have y:=bq;clear bq
    (try clear B)
    obtain⟨N,A,u9⟩:=fk (n:=w.heap.size) (w:=s) f.size;have v:aA (Qk 1) 53 N.heap.size s (D aF aU aO) []:=by rw[A];exact d
    refine kg (aR 1) underlying44 d7 (w0:=N) (by rfl) (.tmp 45) (.tmp 47) (by rfl) (by rfl) v u9 (by rfl) L ⟨⟨_,_,rfl,p,pd⟩,T.out.lq.1⟩ (by simp) ?_;intro bd K x X q aq;obtain⟨aG,aQ,rfl⟩:=aA.form x;rw[aJ.out]at x;rw[aJ.out];replace l:Bx 53 K w2.heap.size [J (E.aB q1.num),D Ap aC ay,D an aD aB]:=(q.block _ l.lt (λu=>by have bs:=aI _ u.symm;omega)).trans l;replace e:=e.gr q (uu d e (by decide));replace L:Bx 53 K bp [J (E.aB q1.num),D Ap aC ay,D an aD aB]:=(q.block _ L.lt (λu=>by have bs:=aI _ u.symm;omega)).trans L;replace d:aL 1 w K (D aG aY aQ) ([]++[q1]):=by rw[A]at x;exact x
    replace f:=f.gr q X (λj u=> .inr (.inr (by rw[<-A];exact(aA.lt v j u).1)));replace p:=p.kw X;replace pd:=pd.kw X;replace c:=c.app v q (by decide);replace sc:=sc.app v q (by decide);replace rd:=rd.app v q (by decide);replace z:=z.app v q (by decide);skip;replace m:=m.grown q (λk u=>by omega);clear v x X q aq u9 A N;obtain⟨s,bv⟩:∃bg,bg=K:=⟨_,rfl⟩;subst bv;clear C;have C:=sc.k 1;replace Z:=l.c3;refine ax y (by exact⟨m,l.cz⟩) (λB=> ?_);clear y M)
  |(have y:=aV;clear aV
    (try clear B)
    have bl:=sc.k 1;have bo:=sc.free 1;go_simp;clear bl bo;generalize F:ag s _ _=s at*;have a:=eJ sc F;clear F;replace p:=p.kw a.kw;replace f:=f.bs a (by omega);replace d:=d.bs a;replace e:=e.bs a;replace pd:=pd.kw a.kw;replace c:=c.bs a;replace rd:=rd.bs a;replace l:=l.bs a;replace z:=z.bs a
    try(replace L:=L.bs a (by first|omega|(have:=cd;omega)|(have:=bB;omega)))
    replace sc:=a.new;replace m:=m.bs a;clear a;clear C;have C:=sc.k 1;replace Z:=l.c3;refine ax y (by exact⟨m,l.cz⟩) (λB=> ?_);clear y M)
  |(with_reducible show b5 _ _ _ _ _ _ _ _ _ _
    first
     |refine av (i:=4) rfl (λM bh=> ?_) ?_
     |refine av (i:=6) rfl (λM bi=> ?_) ?_
     |refine av (i:=7) rfl (λM bq=> ?_) ?_
     |refine av (i:=10) rfl (λM aV=> ?_) ?_
     |exact bm)
  |(with_reducible show bJ _ _ _ _ _ _ _ _ _
    first
     |refine ak [4,6] ?_
     |refine ak [4] ?_
     |refine ak [6] ?_
     |refine ak [7] ?_
     |refine ak [10] ?_
     |refine ak [4] ?_
     |refine ak [7] ?_
     |refine aa 8 ?_
     |refine aa 9 ?_
     |refine aW (by decide +kernel) (aX ?_) _)
  |fail
 all_goals try clear B
 all_goals try(have cc:=L.c3)
 all_goals
  have o:=(V.refl s).alloc (ao #[D none 0 0] 44);obtain⟨N,A,u9⟩:=fk (n:=w.heap.size) (w:=s.alloc (ao #[D none 0 0] 44)) (f.up o).size;have v:Y (aP ni 1 44 N.heap.size (s.alloc (ao #[D none 0 0] 44)) (D a5 bw ar) []):=G (by rw[A];exact e.up o);have aK:Y (ni (s.alloc (ao #[D none 0 0] 44)) [D none 0 0] []):=G ⟨rfl,rfl⟩;have aN:=G u9;have aH:=G (Bx.new 44 s [D none 0 0]);have aM:=G (sc.up o);have bA:=sc.k 2;obtain⟨bx,a8⟩:∃n,Y (([]++[[]]:List (List Rat)).length=n):=⟨_,G rfl⟩;clear u9;go_wp2_with(at_builtin;refine hB uv underlying45 hJ hK (by decide) (w0:=N) rfl _ _ rfl rfl v.out aN.out rfl aH.out aK.out (by simp) ?_;clear C bA;intro bd K x R aq q a7;obtain⟨a6,ar,rfl⟩:=aP.form x;rw[a8.out]at x|-;have af:=R.bx (by decide) aM.out;have c2:=af.cell (i:=2) rfl;have a1:=af.free 2);have a:=dK [D a6 bx ar] 2 af rfl (Nat.le_of_ble_eq_true rfl);replace c:=(R.bx (by decide) (c.up o)).bs a (by omega);replace rd:=(R.bx (by decide) (rd.up o)).bs a (by omega);replace d:aL 1 w K (D aG aY aQ) ([]++[q1]):=R.own (aR 1) (by decide) (d.up o);replace d:=d.bs a (by decide);rw[A]at x;replace e:eO w K (D a6 bx ar) ([]++[[]]):=x;replace e:=e.bs a (by decide);replace f:=((f.up o).gr q R.1 (λj u=> .inr (.inr (by rw[<-A];exact(aP.lt v.out j u).1)))).bs a (by omega);replace sc:=a.new;clear a af c2 a1 R aq q a7 x o v aK aN aH aM A N m
 all_goals
  rw[a9];go_wp2_with fail;refine(T.out.l2 _ rd).mono ?_;rintro u w1 ⟨rfl,Q,W⟩;have a:=W.hU rd Q;replace c:=c.bs a (by omega);replace sc:=sc.bs a (by omega);replace f:=f.bs a (by omega);replace d:=d.bs a (by decide);replace e:=e.bs a (by decide);clear a W rd;have aS:=T.out.c2;go_wp2_with(go_at_call 182;refine(pL _ _ _).mono ?_;rintro u ai ⟨rfl,rfl⟩);clear aS;have bF:∀j,(D aG aY aQ).ownBlock=U j->j<w1.heap.size:=λj ab=>(aA.lt d j ab).2
  refine(T.out.lW w1).mono ?_;rintro u w2 ⟨cf,ce,rfl,p,P,bG,u2⟩;replace c:=c.up u2;have rd:=Bx.up Q u2;revert sc f d e;refine bf u2 ?_;intro sc f d e
  clear Q;obtain⟨bC,bV,m⟩:=fk (n:=0) (w:=w2) (bn _);have bW:=rd.lt;have bY:=sc.lt;have bX:=c.lt;obtain⟨am,aw,rfl⟩:=aA.form P;clear u2;obtain⟨bO,bP,rfl,p,pd⟩:=p;obtain⟨Ap,aC,ay,rfl⟩:=p.shape;obtain⟨an,aD,aB,rfl⟩:=pd.shape;have aI:∀j,(D aG aY aQ).ownBlock=U j->j<w2.heap.size:=λj ab=>(aA.lt d j ab).2
  go_upto_region 10 with fail
  generalize F:ah (ah w2 _) _=aE at*;obtain⟨o,l,z⟩:=br F;clear F;have bZ:=c.lt;have b9:=sc.lt;have b2:=rd.lt;have b0:=c.lt;have ca:=sc.lt;have b4:=rd.lt;revert c rd sc f d e m P p pd;revert o;refine eG ?_;intro c rd sc f d e m P p pd
  have Z:=l.c3;obtain⟨bK,aJ⟩:∃n,Y (([q1]++[q2]:List Rat).length=n):=⟨_,G rfl⟩;have C:=sc.k 1;revert l z c rd sc f d e m P p pd;refine au (V.refl aE).drew ?_;intro l z c rd sc f d e m P p pd;revert C;refine cj (V.refl aE).drew ?_;intro C
  replace Z:=l.c3;refine aZ ?_;refine a3 (S:=λai=>V bC ai/\Cz ai (w2.heap.size) 0 [J (E.aB q2.num),D Ap aC ay,D an aD aB]) (by kernel_rfl) (by exact⟨m,l.cz⟩) (λB=> ?_);generalize aE.drew=s at*;refine aa 0 ?_;refine aa 1 ?_;refine aa 2 ?_;refine aa 3 ?_;refine aa 5 ?_
  repeat' first
   |(have y:=bh;clear bh
     (try clear B)
     go_simp;refine ax y (by exact⟨m,l.cz⟩) (λB=> ?_);clear y M)
   |(have y:=bi;clear bi
     (try clear B)
     go_simp;have b1:=c.lt;have bB:=sc.lt;have b6:=rd.lt;have bT:=l.lt;have bU:=z.lt;have cb:=m.size;generalize aT:s.heap.size=bp at*;generalize F:ah s _=s at*;obtain⟨o,L⟩:=b3 F aT;clear F aT;revert l z c rd sc f d e m P p pd;refine au o ?_;intro l z c rd sc f d e m P p pd;revert C;refine cj o ?_;intro C
     replace Z:=l.c3;clear o;refine ax y (by exact⟨m,l.cz⟩) (λB=> ?_);clear y M)
   |(have y:=bq;clear bq
     (try clear B)
     obtain⟨N,A,u9⟩:=fk (n:=w.heap.size) (w:=s) f.size;have v:aA (Qk 1) 53 N.heap.size s (D aG aY aQ) [q1]:=by rw[A];exact d
     refine kg (aR 1) underlying44 d7 (w0:=N) (by rfl) (.tmp 45) (.tmp 47) (by rfl) (by rfl) v u9 (by rfl) L ⟨⟨_,_,rfl,p,pd⟩,T.out.lq.2⟩ (by simp) ?_;intro bd K x X q aq;obtain⟨bE,bH,rfl⟩:=aA.form x;rw[aJ.out]at x;rw[aJ.out];replace l:Bx 53 K w2.heap.size [J (E.aB q2.num),D Ap aC ay,D an aD aB]:=(q.block _ l.lt (λu=>by have bs:=aI _ u.symm;omega)).trans l;replace e:=e.gr q (uu d e (by decide));replace L:Bx 53 K bp [J (E.aB q2.num),D Ap aC ay,D an aD aB]:=(q.block _ L.lt (λu=>by have bs:=aI _ u.symm;omega)).trans L;replace d:aL 1 w K (D bE bK bH) ([q1]++[q2]):=by rw[A]at x;exact x
     replace f:=f.gr q X (λj u=> .inr (.inr (by rw[<-A];exact(aA.lt v j u).1)));replace p:=p.kw X;replace pd:=pd.kw X;replace c:=c.app v q (by decide);replace sc:=sc.app v q (by decide);replace rd:=rd.app v q (by decide);replace z:=z.app v q (by decide);replace P:aL 1 w1 K (D am r.length aw) r:=aA.kept (aR 1) P X q (Dq (λj ab=>(aA.lt P j ab).1) bF);replace m:=m.grown q (λk u=>by omega);clear v x X q aq u9 A N;obtain⟨s,bv⟩:∃bg,bg=K:=⟨_,rfl⟩;subst bv;clear C;have C:=sc.k 1;replace Z:=l.c3;refine ax y (by exact⟨m,l.cz⟩) (λB=> ?_);clear y M)
   |(have y:=aV;clear aV
     (try clear B)
     have bl:=sc.k 1;have bo:=sc.free 1;go_simp;clear bl bo;generalize F:ag s _ _=s at*;have a:=eJ sc F;clear F;replace p:=p.kw a.kw;replace f:=f.bs a (by omega);replace d:=d.bs a;replace e:=e.bs a;replace P:=P.bs a;replace pd:=pd.kw a.kw;replace c:=c.bs a;replace rd:=rd.bs a;replace l:=l.bs a;replace z:=z.bs a
     try(replace L:=L.bs a (by first|omega|(have:=cd;omega)|(have:=bB;omega)))
     replace sc:=a.new;replace m:=m.bs a;clear a;clear C;have C:=sc.k 1;replace Z:=l.c3;refine ax y (by exact⟨m,l.cz⟩) (λB=> ?_);clear y M)
   |(with_reducible show b5 _ _ _ _ _ _ _ _ _ _
     first
      |refine av (i:=4) rfl (λM bh=> ?_) ?_
      |refine av (i:=6) rfl (λM bi=> ?_) ?_
      |refine av (i:=7) rfl (λM bq=> ?_) ?_
      |refine av (i:=10) rfl (λM aV=> ?_) ?_
      |exact bm)
   |(with_reducible show bJ _ _ _ _ _ _ _ _ _
     first
      |refine ak [4,6] ?_
      |refine ak [4] ?_
      |refine ak [6] ?_
      |refine ak [7] ?_
      |refine ak [10] ?_
      |refine ak [4] ?_
      |refine ak [7] ?_
      |refine aa 8 ?_
      |refine aa 9 ?_
      |refine aW (by decide +kernel) (aX ?_) _)
   |fail
  all_goals try clear B
  all_goals try(have cc:=L.c3)
  all_goals
   have o:=(V.refl s).alloc (ao #[D am r.length aw] 44);obtain⟨N,A,u9⟩:=fk (n:=w.heap.size) (w:=s.alloc (ao #[D am r.length aw] 44)) (f.up o).size;have v:Y (aP (it 1) 1 44 N.heap.size (s.alloc (ao #[D am r.length aw] 44)) (D a6 bx ar) [[]]):=G (by rw[A];exact(eO.rws e).up o);have aK:Y ((it 1) (s.alloc (ao #[D am r.length aw] 44)) [D am r.length aw] r):=G ⟨_,rfl,(aL.a P).up o⟩;have aN:=G u9;have aH:=G (Bx.new 44 s [D am r.length aw]);have aM:=G (sc.up o);have bA:=sc.k 2;obtain⟨bI,a8⟩:∃n,Y (([[]]++[r]:List (List Rat)).length=n):=⟨_,G rfl⟩;clear u9;go_wp2_with(at_builtin;refine hB (i5 1) underlying45 hJ hK (by decide) (w0:=N) rfl _ _ rfl rfl v.out aN.out rfl aH.out aK.out (by simp) ?_;clear C bA;intro bd K x R aq q a7;obtain⟨bD,jo,rfl⟩:=aP.form x;rw[a8.out]at x|-;have af:=R.bx (by decide) aM.out;have c2:=af.cell (i:=2) rfl;have a1:=af.free 2);have a:=dK [D bD bI jo] 2 af rfl (Nat.le_of_ble_eq_true rfl);replace c:=(R.bx (by decide) (c.up o)).bs a (by omega);replace rd:=(R.bx (by decide) (rd.up o)).bs a (by omega);replace d:aL 1 w K (D bE bK bH) ([q1]++[q2]):=R.own (aR 1) (by decide) (d.up o);replace d:=d.bs a (by decide);rw[A]at x;replace e:bk 1 w K (D bD bI jo) ([[]]++[r]):=x;replace e:=e.bs a (by decide);replace f:=((f.up o).gr q R.1 (λj u=> .inr (.inr (by rw[<-A];exact(aP.lt v.out j u).1)))).bs a (by omega);replace sc:=a.new;clear a af c2 a1 R aq q a7 x o v aK aN aH aM A N m
  all_goals
   rw[a9];go_wp2_with fail;refine(T.out.l3 _ rd).mono ?_;rintro u w1 ⟨rfl,Q,W⟩;have a:=W.hU rd Q;replace c:=c.bs a (by omega);replace sc:=sc.bs a (by omega);replace f:=f.bs a (by omega);replace d:=d.bs a (by decide);replace e:=e.bs a (by decide);clear a W rd;have aS:=T.out.c3;go_wp2_with(go_at_call 182;refine(pL _ _ _).mono ?_;rintro u ai ⟨rfl,rfl⟩);clear aS;have rd:Rd w1 g bL j false:=Q;clear Q;refine(Dl rd (G T.out.ux.1) (G T.out.ux.2)).mono ?_;rintro u w3 ⟨rfl,Q,W⟩;have a:=W.hU rd Q;replace c:=c.bs a (by omega);replace sc:=sc.bs a (by omega);replace f:=f.bs a (by omega);replace d:=d.bs a (by decide);replace e:=e.bs a (by decide);clear a W rd;obtain⟨co,cp,cq,cr⟩:=c.c4;have cg:=c.free 0;have ch:=c.free 1;have a1:=c.free 2;have ci:=c.free 3;go_wp2;have a:=dK [H I 0,H I 0,H I 0,H I 0] 0 c rfl (Nat.le_of_ble_eq_true rfl);exact a4 (cl rfl rfl bM bN a.new rfl) rfl ⟨_,_,rfl,d.bs a (by decide),e.bs a (by decide),Bx.bs Q a (by omega),sc.bs a (by omega),f.bs a (by omega)⟩
structure Fq (z o h:Rat):Prop where
 z:z=((0:Nat):Rat)
 o:o=((1:Nat):Rat)
 h:h=1/2
theorem i6 (h:n<4294967296):E.Lq (n:Rat) 1:=⟨by rw[show((n:Rat)).num=(n:Int)from rfl];exact gM h,by rw[show((n:Rat)).den=1 from rfl];exact gM (by decide)⟩
theorem pM (e:h=1/2):E.Lq h 1:=by
 subst e;exact⟨gM (by decide +kernel),gM (by decide +kernel)⟩
theorem uy (q:Fq z o h):Y (∀w,aj ae 207 #[al ⟨#[48]⟩] w (hj z w)):=G λw=>by rw[q.z];exact uk (.inl ⟨rfl,rfl⟩) w
theorem pN (q:Fq z o h):Y (∀w,aj ae 207 #[al ⟨#[49]⟩] w (hj o w)):=G λw=>by rw[q.o];exact uk (.inr (.inl ⟨rfl,rfl⟩)) w
theorem uz (q:Fq z o h):Y (∀w,aj ae 207 #[al ⟨#[49,47,50]⟩] w (hj h w)):=G λw=>Dd (G q.h) w
theorem Ds (q:Fq z o h):Y (∀w,aj ae 186 #[al ⟨#[49]⟩] w (ix [o] w)):=G λw=>Dj (G (by decide +kernel)) (G (by decide +kernel)) (G (by decide +kernel)) (pN q) (G (by rw[q.o];exact i6 (by decide))) w
theorem Dt (q:Fq z o h):Y (∀w,aj ae 186 #[al ⟨#[49,47,50,44,49,47,50]⟩] w (ix [h,h] w)):=G λw=>uo (i:=3) (u:=⟨#[49,47,50]⟩) (v:=⟨#[49,47,50]⟩) (G (by decide +kernel)) (G (by decide +kernel)) (G (by decide +kernel)) (G (by decide +kernel)) (G (by decide +kernel)) (G (by decide +kernel)) (G (by decide +kernel)) (uz q) (uz q) (G (pM q.h)) (G (pM q.h)) w
theorem Du (q:Fq z o h):Y (∀w,aj ae 186 #[al ⟨#[49,44,48]⟩] w (ix [o,z] w)):=G λw=>uo (i:=1) (u:=⟨#[49]⟩) (v:=⟨#[48]⟩) (G (by decide +kernel)) (G (by decide +kernel)) (G (by decide +kernel)) (G (by decide +kernel)) (G (by decide +kernel)) (G (by decide +kernel)) (G (by decide +kernel)) (pN q) (uy q) (G (by rw[q.o];exact i6 (by decide))) (G (by rw[q.z];exact i6 (by decide))) w
theorem Dw (q:Fq z o h)(w:O):aj ae 184 #[al ⟨#[48,124]⟩,H I 5] w (kK z [] w):=ur (i:=1) (a:=⟨#[48]⟩) (b:=⟨#[]⟩) (G (by decide +kernel)) (G (by decide +kernel)) (G (by decide +kernel)) (G (by decide +kernel)) (G (by decide +kernel)) (by decide) (uy q) (G Dm)
theorem Dx (q:Fq z o h)(w:O):aj ae 184 #[al ⟨#[49,124,49]⟩,H I 8] w (kK o [o] w):=ur (i:=1) (a:=⟨#[49]⟩) (b:=⟨#[49]⟩) (G (by decide +kernel)) (G (by decide +kernel)) (G (by decide +kernel)) (G (by decide +kernel)) (G (by decide +kernel)) (by decide) (pN q) (Ds q)
theorem Dy (q:Fq z o h)(g:Nat):Y (uw g ⟨#[104,101,117,110,10,48,124,10,49,124,49,10,98,32,49,47,50,44,49,47,50,10,101,32,49,44,48]⟩ ⟨#[48,124,10,49,124,49,10,98,32,49,47,50,44,49,47,50,10,101,32,49,44,48]⟩ ⟨#[49,124,49,10,98,32,49,47,50,44,49,47,50,10,101,32,49,44,48]⟩ ⟨#[98,32,49,47,50,44,49,47,50,10,101,32,49,44,48]⟩ ⟨#[101,32,49,44,48]⟩ ⟨#[48,124]⟩ ⟨#[49,124,49]⟩ ⟨#[98,32,49,47,50,44,49,47,50]⟩ ⟨#[98,32,49,47,50,44,49,47,50,10,101,32,49,44,48]⟩ 5 8 12 22 z o [o]):=G
 {l1:=λw i c d=>by subst d;exact kJ (i:=2) (s:=⟨#[48,124,10,49,124,49,10,98,32,49,47,50,44,49,47,50,10,101,32,49,44,48]⟩) (a:=⟨#[48,124]⟩) (b:=⟨#[49,124,49,10,98,32,49,47,50,44,49,47,50,10,101,32,49,44,48]⟩) c (G (by decide +kernel)) (G (by decide +kernel)) (G (by decide +kernel)) (G (by decide +kernel)) (G (by decide +kernel)) (by decide)
  l2:=λw c=>kJ (i:=3) (s:=⟨#[49,124,49,10,98,32,49,47,50,44,49,47,50,10,101,32,49,44,48]⟩) (a:=⟨#[49,124,49]⟩) (b:=⟨#[98,32,49,47,50,44,49,47,50,10,101,32,49,44,48]⟩) c (G (by decide +kernel)) (G (by decide +kernel)) (G (by decide +kernel)) (G (by decide +kernel)) (G (by decide +kernel)) (by decide)
  l3:=λw c=>kJ (i:=9) (s:=⟨#[98,32,49,47,50,44,49,47,50,10,101,32,49,44,48]⟩) (a:=⟨#[98,32,49,47,50,44,49,47,50]⟩) (b:=⟨#[101,32,49,44,48]⟩) c (G (by decide +kernel)) (G (by decide +kernel)) (G (by decide +kernel)) (G (by decide +kernel)) (G (by decide +kernel)) (by decide)
  c1:=by decide +kernel
  c2:=by decide +kernel
  c3:=by decide +kernel
  zh:=Dw q
  lW:=Dx q
  ux:=⟨by decide +kernel,by decide +kernel⟩
  lq:=⟨by rw[q.z];exact i6 (by decide),by rw[q.o];exact i6 (by decide)⟩}
theorem Dz (w:O):aj ae 185 #[al ⟨#[98,32,49,47,50,44,49,47,50]⟩,al ⟨#[98,32]⟩] w λe a=>e=aw (aY #[al ⟨#[49,47,50,44,49,47,50]⟩,J true])/\w=a:=by
 have b:((ByteArray.extract ⟨#[98,32,49,47,50,44,49,47,50]⟩ 0 2).toList==[98,32])=true:=by decide +kernel
 have c:ByteArray.extract ⟨#[98,32,49,47,50,44,49,47,50]⟩ 2 9=⟨#[49,47,50,44,49,47,50]⟩:=by decide +kernel
 go_enter func185,ntmps185;go_wp2
 go_ret2
 exact⟨rfl,rfl⟩
theorem DB (w:O):aj ae 185 #[al ⟨#[101,32,49,44,48]⟩,al ⟨#[101,32]⟩] w λe a=>e=aw (aY #[al ⟨#[49,44,48]⟩,J true])/\w=a:=by
 have b:((ByteArray.extract ⟨#[101,32,49,44,48]⟩ 0 2).toList==[101,32])=true:=by decide +kernel
 have c:ByteArray.extract ⟨#[101,32,49,44,48]⟩ 2 5=⟨#[49,44,48]⟩:=by decide +kernel
 go_enter func185,ntmps185;go_wp2
 go_ret2
 exact⟨rfl,rfl⟩
theorem nj (w:O):(ct 47).run ae w= .ok true w:=by kernel_rfl
theorem nk (w:O):(ci 47).run ae w= .ok 5 w:=by kernel_rfl
def pO (z o h:Rat)(w:O)(e:aO)(a:O):Prop:= ∃d b c f,e=aw (aY #[af #[al ⟨#[104,101,117,110]⟩,d,b,c,f],af #[H I 0,H I 0,H I 0,H I 0]])/\aF 1 a d [z,o]/\bk 1 w a b [[],[o]]/\aF 1 a c [h,h]/\aF 1 a f [o,z]/\V w a
theorem DC (q:Fq z o h)(w:O):aj ae 124 #[al ⟨#[104,101,117,110,10,48,124,10,49,124,49,10,98,32,49,47,50,44,49,47,50,10,101,32,49,44,48]⟩] w (pO z o h w):=by
 have ak:Y (Z.fL ⟨#[104,101,117,110]⟩=true):=G (by decide +kernel);go_enter func124,ntmps124;go_wp2_with fail;generalize l:ah (ah (ah (ah w _) _) _) _=aA at*;obtain⟨k,f,e,sc,rd⟩:=dn l;clear l;have B:=f.c5;have R:=f.free;have C:=e.c4;have L:=e.free;have u:=sc.c5;have S:=sc.free;have y:=rd.c3;refine(kJ (i:=4) (s:=⟨#[104,101,117,110,10,48,124,10,49,124,49,10,98,32,49,47,50,44,49,47,50,10,101,32,49,44,48]⟩) (a:=⟨#[104,101,117,110]⟩) (b:=⟨#[48,124,10,49,124,49,10,98,32,49,47,50,44,49,47,50,10,101,32,49,44,48]⟩) rd (G (by decide +kernel)) (G (by decide +kernel)) (G (by decide +kernel)) (G (by decide +kernel)) (G (by decide +kernel)) (by decide)).mono ?_;rintro K w1 ⟨rfl,t,A⟩;have d:=A.hU rd t;replace f:=f.bs d (by omega);replace e:=e.bs d (by omega);replace sc:=sc.bs d (by omega);replace k:=k.bs d (by omega);clear d A rd;have rd:Bx 243 _ (w.heap.size+1+1+1) _:=t;clear t;have u:=sc.c5;have S:=sc.free;go_wp2_with fail;generalize l:ag w1 _ _=aB at*;have d:=eJ sc l;clear l;replace f:=f.bs d;replace e:=e.bs d;replace rd:=rd.bs d;replace sc:=d.new;replace k:=k.bs d;clear d;replace u:=sc.c5;refine(tK _ (by decide) _).mono ?_;rintro K w2 ⟨rfl,ay⟩;rw[ak.out];revert f e rd sc k u;revert ay;refine dX ?_;intro f e rd sc k u;go_wp2_with fail;refine(Dr (Dy q _) rd sc (by omega)).mono ?_;rintro K w3 ⟨az,ab,rfl,n,m,t,W,F⟩;replace f:=F.bx f (by omega) (by omega);replace e:=F.bx e (by omega) (by omega);replace m:bk 1 w w3 ab [[],[o]]:=aP.weaken m k.size;replace k:=F.du k (by omega) (by omega);replace n:=n.a;obtain⟨U,aa,(E:az=D U 2 aa)⟩:=n.form;obtain⟨T,X,(aw:ab=D T 2 X)⟩:=bk.form m;subst E aw;have sc:Bx 47 w3 (w.heap.size+1+1) [al ⟨#[104,101,117,110]⟩,D U 2 aa,D T 2 X,D none 0 0,D none 0 0]:=W;have rd:Bx 243 w3 (w.heap.size+1+1+1) [al ⟨#[98,32,49,47,50,44,49,47,50,10,101,32,49,44,48]⟩,H I 12,J false]:=t;clear F W t;go_wp2_with fail;generalize l:ah w3 _=aD at*;obtain⟨ax,g⟩:=aC l;clear l;have aG:=f.lt;have aH:=e.lt;have aJ:=sc.lt;have aI:=rd.lt;revert f e k n m sc rd;revert ax;refine eR ?_;intro f e k n m sc rd;have x:=g.c4;refine(ut (c:=98) (s:=⟨#[98,32,49,47,50,44,49,47,50,10,101,32,49,44,48]⟩) (a:=⟨#[98,32,49,47,50,44,49,47,50]⟩) (b:=⟨#[101,32,49,44,48]⟩) (r:=⟨#[49,47,50,44,49,47,50]⟩) (i:=12) (j:=22) (o:=false) rd (G λw Q=>kJ (i:=9) (s:=⟨#[98,32,49,47,50,44,49,47,50,10,101,32,49,44,48]⟩) (a:=⟨#[98,32,49,47,50,44,49,47,50]⟩) (b:=⟨#[101,32,49,44,48]⟩) Q (G (by decide +kernel)) (G (by decide +kernel)) (G (by decide +kernel)) (G (by decide +kernel)) (G (by decide +kernel)) (by decide)) (G Dz) (Dt q) (by decide)).mono ?_;rintro K w5 ⟨M,rfl,p,t,A⟩;have d:=A.hU rd t;replace f:=f.bs d (by omega);replace e:=e.bs d (by omega);replace sc:=sc.bs d (by omega);replace g:=g.bs d (by omega);replace n:=n.bs d (by decide);replace m:=m.bs d (by decide);replace k:=k.bs d (by omega);skip;clear d A rd;have rd:Bx 243 w5 (w.heap.size+1+1+1) [al ⟨#[101,32,49,44,48]⟩,H I 22,J false]:=t;clear t;obtain⟨af,ar,(E:M=D af 2 ar)⟩:=p.form;subst E;have u:=sc.c5;have S:=sc.free;have y:=rd.c3;have x:=g.c4;have P:=g.free;go_wp2_with fail;generalize l:ag w5 _ _=am at*;have d:=eJ sc l;clear l;replace n:=n.bs d;replace m:=m.bs d;replace p:=p.bs d;replace f:=f.bs d;replace e:=e.bs d;replace rd:=rd.bs d;replace g:=g.bs d;replace sc:=d.new;replace k:=k.bs d;clear d;replace u:=sc.c5;replace y:=rd.c3;replace x:=g.c4;replace P:=g.free;generalize l:ag (ag (ag (ag am _ _) _ _) _ _) _ _=aE at*;have d:=bp g l;clear l;replace n:=n.bs d;replace m:=m.bs d;replace p:=p.bs d;replace f:=f.bs d;replace e:=e.bs d;replace sc:=sc.bs d;replace rd:=rd.bs d;replace g:=d.new;replace k:=k.bs d;clear d;replace u:=sc.c5;replace y:=rd.c3;replace x:=g.c4;refine(ut (c:=101) (s:=⟨#[101,32,49,44,48]⟩) (a:=⟨#[101,32,49,44,48]⟩) (b:=⟨#[]⟩) (r:=⟨#[49,44,48]⟩) (i:=22) (j:=27) (o:=true) rd (G λw Q=>Dk (s:=⟨#[101,32,49,44,48]⟩) Q (G (by decide +kernel)) (G (by decide +kernel)) (by decide)) (G DB) (Du q) (by decide)).mono ?_;rintro K w5 ⟨M,rfl,v,t,A⟩;have d:=A.hU rd t;replace f:=f.bs d (by omega);replace e:=e.bs d (by omega);replace sc:=sc.bs d (by omega);replace g:=g.bs d (by omega);replace n:=n.bs d (by decide);replace m:=m.bs d (by decide);replace k:=k.bs d (by omega);replace p:=p.bs d (by decide);clear d A rd;have rd:Bx 243 w5 (w.heap.size+1+1+1) [al ⟨#[]⟩,H I 27,J true]:=t;clear t;obtain⟨ai,av,(E:M=D ai 2 av)⟩:=v.form;subst E;have B:=f.c5;have R:=f.free;have C:=e.c4;have L:=e.free;have u:=sc.c5;have S:=sc.free;have y:=rd.c3;have x:=g.c4;have P:=g.free;go_wp2_with fail;generalize l:ag w5 _ _=an at*;have d:=eJ sc l;clear l;replace n:=n.bs d;replace m:=m.bs d;replace p:=p.bs d;replace v:=v.bs d;replace f:=f.bs d;replace e:=e.bs d;replace rd:=rd.bs d;replace g:=g.bs d;replace sc:=d.new;replace k:=k.bs d;clear d;replace B:=f.c5;replace R:=f.free;replace C:=e.c4;replace L:=e.free;replace u:=sc.c5;replace y:=rd.c3;replace x:=g.c4;replace P:=g.free;generalize l:ag (ag (ag (ag an _ _) _ _) _ _) _ _=ao at*;have d:=bp g l;clear l;replace n:=n.bs d;replace m:=m.bs d;replace p:=p.bs d;replace v:=v.bs d;replace f:=f.bs d;replace e:=e.bs d;replace sc:=sc.bs d;replace rd:=rd.bs d;replace g:=d.new;replace k:=k.bs d;clear d;replace B:=f.c5;replace R:=f.free;replace C:=e.c4;replace L:=e.free;replace u:=sc.c5;replace y:=rd.c3;replace x:=g.c4
 go_region
 generalize l:ag (ag (ag (ag (ag ao _ _) _ _) _ _) _ _) _ _=aq at*;have d:=e8 f l;clear l;replace n:=n.bs d;replace m:=m.bs d;replace p:=p.bs d;replace v:=v.bs d;replace e:=e.bs d;replace sc:=sc.bs d;replace rd:=rd.bs d;replace g:=g.bs d;replace f:=d.new;replace k:=k.bs d;clear d;replace B:=f.c5;replace C:=e.c4;replace L:=e.free;replace u:=sc.c5;replace y:=rd.c3;replace x:=g.c4;generalize l:ag (ag (ag (ag aq _ _) _ _) _ _) _ _=N at*;have d:=bp e l;clear l;replace n:=n.bs d;replace m:=m.bs d;replace p:=p.bs d;replace v:=v.bs d;replace f:=f.bs d;replace sc:=sc.bs d;replace rd:=rd.bs d;replace g:=g.bs d;replace e:=d.new;replace k:=k.bs d;clear d;replace B:=f.c5;replace C:=e.c4;replace u:=sc.c5;replace y:=rd.c3;replace x:=g.c4;revert n m p v f sc rd g e k B C;refine au (V.refl N).drew ?_;intro n m p v f sc rd g e k B C;revert u y x;refine bo (V.refl N).drew ?_;intro u y x;generalize N.drew=aF at*;go_wp2;exact a4 (gl rfl rfl rfl nj nk bM bN f rfl e rfl) rfl ⟨_,_,_,_,rfl,n,m,p,v,k⟩
def pP (w:O)(x:List W)(r:List ay):Prop:= ∃a,x=[a]/\aA Rw 53 0 w a r
theorem pQ:Kn 1 44 pP where
 kw:=λ⟨u,h1,h2⟩ b=>⟨u,h1,b.own cG (by decide) h2⟩
 ok:=λ⟨u,h1,h2⟩=>by
  obtain⟨d,c,e⟩:=aA.form h2;subst h1 e;exact⟨rfl,λv a=>by simp at a;subst a;exact⟨trivial,rfl⟩⟩
def eP (w0 w:O)(v:W)(a:List (List ay)):Prop:=aP pP 1 44 w0.heap.size w v a
theorem eP.up {w0 w ab:O}{v:W}{ls:List (List ay)}(h:eP w0 w v ls)(a:V w ab):eP w0 ab v ls:=aP.up pQ h a
instance eP.bW {w0 w ab:O} {v:W} {ls:List (List ay)}:Lu (V w ab) (eP w0 w v ls) (eP w0 ab v ls):=bu λu h=>h.up u
theorem eP.form {w0 w:O}{v:W}{ls:List (List ay)}(h:eP w0 w v ls):∃a c,v=D a ls.length c:=aP.form h
theorem eP.jD {ls:List (List ay)}(h:eP w0 w v ls):cU Rw w v ls:=by
 obtain⟨j,c,g,h1,h2,k,a,m⟩:=aP.sn h
 have f:∀x∈g,cQ 1 x:=λx o=>by
  obtain⟨i,d⟩:=List.getElem?_of_mem o;have b:i<ls.length:=by rw[<-a.1];exact(List.getElem?_eq_some_iff.1 d).1
  exact pQ.ok (a.2 i x _ d (aT b))
 refine⟨j,c,g.flatten,h1,h2,k,by rw[eL f,a.1,Nat.mul_one],m,λi u l n b=> ?_⟩;obtain⟨p,e,h⟩:=a.2 i _ l (m7 f n) b;cases e;exact aA.sq h
def DD (a:List (List ay))(w:O)(e:aO)(d:O):Prop:= ∃b c,e=aw (D b a.length c)/\eP w d (D b a.length c) a/\V w d
theorem DG {b:List (List ay)}(h:cU Rw w (D A b.length c) b)(ah:b.length<=1000)(z:∀l∈b,l.length<=1000):aj ae 98 #[D A b.length c] w (DD b w):=by
 have B:=G h;have F:=G z;clear h z;go_enter func98,ntmps98;go_wp2_with fail
 go_loopw[3,4] (λQ n wr=> ∃d:Nat,n=H I (d:Int)/\d<=b.length/\eP w wr Q (b.take d)/\V w wr) (λ_ n _=>b.length-(aI n).toNat)
 case atStart=>exact⟨0,rfl,bn _,aP.nil _ _ _ _ _,V.refl w⟩
 case round=>
  obtain⟨d,rfl,ag,e,f⟩:=hrel;have t:Y ((b.take d).length=d):=G (by rw[List.length_take];omega)
  by_cases k:d<b.length
  .obtain⟨aa,an,aq,rfl,hb,P,m⟩:=(B.out.up cG f).at_ k
   have s:Y (b.take (d+1)=b.take d++[b[d]]):=G (List.take_succ_eq_append_getElem k);have ai:=F.out _ (cq k);generalize b[d]=l at*;obtain⟨R,ab,rfl⟩:=m.form;obtain⟨u,C⟩:∃a,Y (b.take d=a):=⟨_,G rfl⟩;rw[C.out]at e t s;obtain⟨r,x,rfl⟩:=e.form;have y:u.length<=1000:=by have:=t.out;omega
   have k1:(d:Int)<(b.length:Int):=by omega
   have ak:(0:Int)<=(d:Int):=by omega
   have al:((d:Int)).toNat=d:=by omega
   go_wp2_with fail;refine(sj cG m (by omega)).mono ?_;rintro af j ⟨W,rfl,p,o⟩;obtain⟨i,c1,rfl⟩:=aA.form p;replace e:=e.up o;replace f:=f.trans o;clear o P m;have g:=(V.refl j).alloc (ao #[D i l.length c1] 44);have J:=G (e.up g);have K:Y (pP (j.alloc (ao #[D i l.length c1] 44)) [D i l.length c1] l):=G ⟨_,rfl,aA.weaken (aA.up cG p g) (bn _)⟩;have L:=G (f.trans g);have E:=G y;clear e p g y;go_wp2_with(at_builtin;refine hB pQ underlying45 hJ hK (by decide) (w0:=w) rfl _ _ rfl rfl J.out L.out rfl (heap_alloc_new j _) (v:=D r u.length x) (q:=l) K.out (by have:=E.out;omega) ?_;intro X Z M S N T U)
   go_roundw
   case rel=>exact⟨d+1,by first|rfl|go_num,by omega,by rw[s.out];exact M,N⟩
   case measure=>simp[aI];omega
  .obtain rfl:d=b.length:=by omega
   rw[co]at e;obtain⟨r,x,rfl⟩:=e.form;have k1:¬((b.length:Int)<(b.length:Int)):=by omega
   go_wp2;go_ret;exact⟨_,_,rfl,e,f⟩
def fF (w0 w:O)(v:W)(l:List ay):Prop:=aA Rw 53 w0.heap.size w v l
theorem fF.up {w0 w ab:O}{v:W}{l:List ay}(h:fF w0 w v l)(u:V w ab):fF w0 ab v l:=aA.up cG h u
instance fF.bW {w0 w ab:O} {v:W} {l:List ay}:Lu (V w ab) (fF w0 w v l) (fF w0 ab v l):=bu λu h=>h.up u
theorem fF.bs {l:List ay}(h:fF w0 w v l)(b:Bs T g w ab old new)(a:53≠T:=by decide):fF w0 ab v l:=ef cG h b a
theorem eP.bs {ls:List (List ay)}(h:eP w0 w v ls)(b:Bs T g w ab old new)(a:53≠T/\44≠T:=by decide):eP w0 ab v ls:=by
 obtain⟨f,ha,c⟩:=h;refine⟨f,ha.imp λx q ⟨u,e,h2⟩=>⟨u,e,ef cG h2 b a.1⟩,c.kept b.gr ?_⟩;rcases c.2 with⟨rfl,_⟩|⟨bI,ys,rfl,_,d,_⟩
 .exact .inl rfl
 .exact .inr λe=>by
   cases e;exact a.2 (gh d b.old)
def DH (l:List ay)(d w:O)(e:aO)(c:O):Prop:= ∃a b,e=aw (D a l.length b)/\fF d c (D a l.length b) l/\V w c
theorem kL {l:List ay}(h:Sq Rw w v l)(i:l.length<=1000)(u:V wb w):aj ae 27 #[v] w (DH l wb w):=(sj cG h (by omega)).mono λg j ⟨f,d,a,e⟩=>by
 obtain⟨b,c,rfl⟩:=aA.form a;exact⟨b,c,d,aA.weaken a u.size,e⟩
def DI (a:List (List ay))(f w:O)(e:aO)(d:O):Prop:= ∃b c,e=aw (D b a.length c)/\eP f d (D b a.length c) a/\V w d
theorem DJ {a:List (List ay)}(h:cU Rw w (D A a.length c) a)(f:a.length<=1000)(g:∀l∈a,l.length<=1000)(u:V wb w):aj ae 98 #[D A a.length c] w (DI a wb w):=(DG h f g).mono λi j ⟨A,c,b,d,e⟩=>⟨A,c,b,aP.weaken d u.size,e⟩
structure eQ (w0 w:O) (vc va vb ve:W) (c:List ay) (a:List (List ay)) (b e:List ay):Prop where
 c:fF w0 w vc c
 a:eP w0 w va a
 b:fF w0 w vb b
 e:fF w0 w ve e
theorem eQ.sw {vc va vb ve:W}{c:List ay}{a:List (List ay)}{b e:List ay}(h:eQ w0 w vc va vb ve c a b e):eg w vc va vb ve c a b e:=⟨aA.sq h.c,h.a.jD,aA.sq h.b,aA.sq h.e⟩
theorem eQ.up {w0 w ab:O}{vc va vb ve:W}{c:List ay}{a:List (List ay)}{b e:List ay}(h:eQ w0 w vc va vb ve c a b e)(u:V w ab):eQ w0 ab vc va vb ve c a b e:=⟨h.c.up u,h.a.up u,h.b.up u,h.e.up u⟩
instance eQ.bW {w0 w ab:O} {vc va vb ve:W} {c:List ay} {a:List (List ay)} {b e:List ay}:Lu (V w ab) (eQ w0 w vc va vb ve c a b e) (eQ w0 ab vc va vb ve c a b e):=bu λu h=>h.up u
theorem eQ.bs {T:an}{g:Nat}{w0 w ab:O}{vc va vb ve:W}{c:List ay}{a:List (List ay)}{b e:List ay}{old new:List W}(h:eQ w0 w vc va vb ve c a b e)(x:Bs T g w ab old new)(d:53≠T/\44≠T:=by decide):eQ w0 ab vc va vb ve c a b e:=⟨h.c.bs x d.1,h.a.bs x d,h.b.bs x d.1,h.e.bs x d.1⟩
def DK (nm:ByteArray)(c:List ay)(a:List (List ay))(b e:List ay)(w:O)(n:aO)(m:O):Prop:= ∃(g d f i:Option am) (k j cb l:Nat),n=aw (af #[al nm,D g c.length k,D d a.length j,D f b.length cb,D i e.length l])/\eQ w m (D g c.length k) (D d a.length j) (D f b.length cb) (D i e.length l) c a b e/\V w m
theorem DL {nm:ByteArray}{c b e:List ay}{a:List (List ay)}{SC SA SB SE:Option am}{cc ca cb ce:Nat}(H:eg w (D SC c.length cc) (D SA a.length ca) (D SB b.length cb) (D SE e.length ce) c a b e)(B:c.length<=1000/\a.length<=1000/\b.length<=1000/\e.length<=1000)(E:∀l∈a,l.length<=1000):
 aj ae 57 #[af #[al nm,D SC c.length cc,D SA a.length ca,D SB b.length cb,D SE e.length ce]] w (DK nm c a b e w):=by
 have x:=G H;have y:=G B;have J:=G E;clear H B E;go_enter func57,ntmps57;go_wp2_with fail;generalize v:ah (ah w _) _=z at*;obtain⟨f,j,d⟩:=br v;clear v;have m:=j.c5;have s:=d.c5;have u:=d.free;revert f j d m s;refine b8 (V.refl z).drew ?_;intro f j d m s;replace u:=d.free;refine aZ ?_;refine a3 (S:=λI=>V w I/\Cz I (w.heap.size) 0 [al nm,D SC c.length cc,D SA a.length ca,D SB b.length cb,D SE e.length ce]) (by kernel_rfl) (by exact⟨f,j.cz⟩) (λn=> ?_);generalize z.drew=t at*;refine aa 0 ?_;refine aa 1 ?_;refine aa 2 ?_;refine aa 3 ?_;refine aa 5 ?_;refine aa 6 ?_;refine aa 8 ?_;refine aa 9 ?_;refine aa 11 ?_;refine aa 12 ?_
 repeat' first
  |(have k:=M;clear M
    (try clear n)
    go_simp;go_at_call 27
    with_reducible refine(kL (x.out.c.up cG f) y.out.1 f).mono ?_
    rintro e t ⟨an,au,rfl,q,g⟩
    try(replace o:=o.up g)
    try(replace p:=p.up g)
    try(replace re:=re.up g)
    revert f j d m;refine bf g ?_;intro f j d m
    replace u:=d.free;replace s:=d.c5;clear g
    try go_wp2_with fail
    refine ax k (by exact⟨f,j.cz⟩) (λn=> ?_);clear k A)
  |(have k:=N;clear N
    (try clear n)
    go_simp;go_at_call 98
    with_reducible refine(DJ (x.out.a.up cG f) y.out.2.1 J.out f).mono ?_
    rintro e t ⟨ab,aq,rfl,o,g⟩
    try(replace q:=q.up g)
    try(replace p:=p.up g)
    try(replace re:=re.up g)
    revert f j d m;refine bf g ?_;intro f j d m
    replace u:=d.free;replace s:=d.c5;clear g
    try go_wp2_with fail
    refine ax k (by exact⟨f,j.cz⟩) (λn=> ?_);clear k A)
  |(have k:=C;clear C
    (try clear n)
    go_simp;go_at_call 27
    with_reducible refine(kL (x.out.b.up cG f) y.out.2.2.1 f).mono ?_
    rintro e t ⟨ai,ar,rfl,p,g⟩
    try(replace q:=q.up g)
    try(replace o:=o.up g)
    try(replace re:=re.up g)
    revert f j d m;refine bf g ?_;intro f j d m
    replace u:=d.free;replace s:=d.c5;clear g
    try go_wp2_with fail
    refine ax k (by exact⟨f,j.cz⟩) (λn=> ?_);clear k A)
  |(have k:=F;clear F
    (try clear n)
    go_simp;go_at_call 27
    with_reducible refine(kL (x.out.e.up cG f) y.out.2.2.2 f).mono ?_
    rintro e t ⟨ao,aw,rfl,re,g⟩
    try(replace q:=q.up g)
    try(replace o:=o.up g)
    try(replace p:=p.up g)
    revert f j d m;refine bf g ?_;intro f j d m
    replace u:=d.free;replace s:=d.c5;clear g
    try go_wp2_with fail
    refine ax k (by exact⟨f,j.cz⟩) (λn=> ?_);clear k A)
  |(have k:=K;clear K
    (try clear n)
    have L:=d.k 0;have P:=d.k 1;have Q:=d.k 2;have R:=d.k 3;have T:=d.k 4;have U:=d.free 0;have W:=d.free 1;have X:=d.free 2;have Y:=d.free 3;have Z:=d.free 4;go_simp;clear L P Q R T U W X Y Z;generalize v:ag (ag (ag (ag (ag t _ _) _ _) _ _) _ _) _ _=t at*;have r:=e8 d v;clear v
    try(replace q:=q.bs r (by decide))
    try(replace o:=o.bs r (by decide))
    try(replace p:=p.bs r (by decide))
    try(replace re:=re.bs r (by decide))
    replace j:=j.bs r;replace d:=r.new;replace f:=f.bs r;clear r;replace m:=j.c5;replace u:=d.free;replace s:=d.c5;refine ax k (by exact⟨f,j.cz⟩) (λn=> ?_);clear k A)
  |(with_reducible show b5 _ _ _ _ _ _ _ _ _ _
    first
     |refine av (i:=4) rfl (λA M=> ?_) ?_
     |refine av (i:=7) rfl (λA N=> ?_) ?_
     |refine av (i:=10) rfl (λA C=> ?_) ?_
     |refine av (i:=13) rfl (λA F=> ?_) ?_
     |refine av (i:=15) rfl (λA K=> ?_) ?_
     |exact bm)
  |(with_reducible show bJ _ _ _ _ _ _ _ _ _
    first
     |refine ak [4] ?_
     |refine ak [7] ?_
     |refine ak [10] ?_
     |refine ak [13] ?_
     |refine ak [15] ?_
     |refine aa 14 ?_
     |refine aW (by decide +kernel) (aX ?_) _)
  |fail
 all_goals try clear n
 go_wp2_with fail;exact a4 (cl rfl rfl nj nk d rfl) rfl ⟨_,_,_,_,_,_,_,_,rfl,⟨q,o,p,re⟩,f⟩
end Go.Proofs.YtjopfpegcckllaaGreatDoor
