/- A part of TopStops's proof: FracLow FracHigh Seq. -/
import Derived.Deep.RegionWith
import Derived.Deep.AppendLies
import Derived.Deep.RegionLaw
import Derived.Test.YtjopfpegcckllaaGreatDoorZqAc
set_option linter.unusedVariables false
set_option linter.unusedSimpArgs false
set_option maxRecDepth 100000
set_option maxHeartbeats 12800000
open Go.Proofs.Tryz
open Go renaming Oper→bt,Act→a6,World→O,Value→W,Calls→aj,Addr→am,maxLen→cm,TypeId→an,Ending→aO,wpList→bG,sizeOf→ci,isAgg→ct,bodyPost_ret→a4
open Go.Ending renaming returned→aw
open Go.IntKind renaming i64→I
open Go.Lib renaming hid→G
open Go.Obj renaming cells→ao
open Go.Proofs.Tryz renaming prog→ae
open Go.RowKit renaming Hid→Y,intOf→aI
open Go.Value renaming tuple→aY,int→H,bool→J,slice→D,agg→af,pointer→az
open Go.World renaming setCell→ag,alloc→ah
open List renaming getElem?_eq_getElem→aT,replicate→bA
open Nat renaming le_trans→aQ,zero_le→bn
open Option renaming some→U
variable {aV:Array bt}{b s:Bool}{Q:Go.Exit->a6->O->Prop}{fn:Go.Func}{z:Int}{l m:List Nat}{rest:List bt}{base c g j k n:Nat}{ab w w0:O}{A B:Prop}{q r:Rat}{t t':Go.Tmp}{d p1 p2 p3 u v:W}{a:a6}{K:a6->O->Prop}{T TS:an}{o:bt}
namespace Go.Proofs.YtjopfpegcckllaaGreatDoor
open Go.RowKit
def Fr (w:O)(v:W)(q:Rat)(k:Nat):Prop:=
 ∃d e c a b,v=af #[J d,e,c]/\Ws w e a/\Ws w c b/\mkRat (E.iv d (E.val a)) (E.val b)=q/\a.length<=k/\b.length<=k/\1<=k
theorem Fr.kw {w ab:O}{v:W}{q:Rat}{k:Nat}(h:Fr w v q k)(a:Kw w ab):Fr ab v q k:=by
 obtain⟨s,u,d,l,e,h1,h2,b,c⟩:=h;exact⟨s,u,d,l,e,h1,h2.kw a,b.kw a,c⟩
instance Fr.jC {w ab:O} {v:W} {q:Rat} {k:Nat}:Lu (Kw w ab) (Fr w v q k) (Fr ab v q k):=bu λu h=>h.kw u
theorem Fr.up (h:Fr w v q k)(a:V w ab):Fr ab v q k:=h.kw a.kw
instance Fr.bW {w ab:O} {v:W} {q:Rat} {k:Nat}:Lu (V w ab) (Fr w v q k) (Fr ab v q k):=bu λu h=>h.up u
theorem Fr.mono (h:Fr w v q j)(a:j<=k):Fr w v q k:=by
 obtain⟨s,u,d,l,i,h1,h2,b,c,e,f,g⟩:=h;exact⟨s,u,d,l,i,h1,h2,b,c,aQ e a,aQ f a,aQ g a⟩
theorem Fr.lq (h:Fr w v q k):E.Lq q k:=by
 obtain⟨s,u,d,l,f,h1,h2,a,rfl,b,c,e⟩:=h;exact E.Lq.mk (E.Lz.iv (aQ (E.cr h2.ok) b)) (aQ (E.cr a.ok) c) e
def Qw (w:O)(v:W)(q:Rat):Prop:= ∃b a,v=af #[J (E.aB q.num),b,a]/\Ws w b (E.words q.num.natAbs)/\Ws w a (E.words q.den)
theorem Qw.kw {w ab:O}{v:W}{q:Rat}(h:Qw w v q)(a:Kw w ab):Qw ab v q:=by
 obtain⟨u,d,h1,h2,b⟩:=h;exact⟨u,d,h1,h2.kw a,b.kw a⟩
instance Qw.jC {w ab:O} {v:W} {q:Rat}:Lu (Kw w ab) (Qw w v q) (Qw ab v q):=bu λu h=>h.kw u
theorem Qw.up (h:Qw w v q)(a:V w ab):Qw ab v q:=h.kw a.kw
instance Qw.bW {w ab:O} {v:W} {q:Rat}:Lu (V w ab) (Qw w v q) (Qw ab v q):=bu λu h=>h.up u
theorem Qw.fr (h:Qw w v q)(a:E.Lq q k):Fr w v q k:=by
 obtain⟨u,d,h1,h2,b⟩:=h;exact⟨_,u,d,_,_,h1,h2,b,by rw[E.bl,E.bl,E.hZ,Rat.mkRat_self],a.1,a.2,a.pos⟩
theorem Qw.mk {m:Nat}(h:Ws w u (E.words n))(k:Ws w d (E.words m))(c:s=E.aB q.num)(b:q.num.natAbs=n)(a:q.den=m):Qw w (af #[J s,u,d]) q:=by
 subst c b a;exact⟨u,d,rfl,h,k⟩
def dq (q:Rat)(w:O)(e:aO)(b:O):Prop:= ∃a,e=aw a/\Qw b a q/\V w b
def eK (q:Rat)(b:Bool)(w:O)(e:aO)(c:O):Prop:= ∃a,e=aw (aY #[a,J b])/\Qw c a q/\V w c
theorem g6 (w:O):(ct 53).run ae w= .ok true w:=by kernel_rfl
theorem g7 (w:O):(ci 53).run ae w= .ok 3 w:=by kernel_rfl
theorem r6 
 (h:Qw w (af #[J s,u,d]) q)(r:Bx T w g [p1,p2,p3])(k:dA p1)(l:dA p2)(m:dA p3)(f:V w0 w)(a:w0.heap.size<=g):
 Bx T (((w.setCell ⟨g,0,none⟩ (J s)).setCell ⟨g,1,none⟩ u).setCell ⟨g,2,none⟩ d) g [J s,u,d]/\Qw (((w.setCell ⟨g,0,none⟩ (J s)).setCell ⟨g,1,none⟩ u).setCell ⟨g,2,none⟩ d) (af #[J s,u,d]) q/\
  V w0 (((w.setCell ⟨g,0,none⟩ (J s)).setCell ⟨g,1,none⟩ u).setCell ⟨g,2,none⟩ d):=by
 have b:Bx T (w.setCell ⟨g,0,none⟩ (J s)) g [J s,p2,p3]:=r.set 0 _;have e:Bx T ((w.setCell ⟨g,0,none⟩ (J s)).setCell ⟨g,1,none⟩ u) g [J s,u,p3]:=b.set 1 _;have n:Bx T (((w.setCell ⟨g,0,none⟩ (J s)).setCell ⟨g,1,none⟩ u).setCell ⟨g,2,none⟩ d) g [J s,u,d]:=e.set 2 _;have k1:=Kw.store (i:=0) (c:=p1) r rfl k (J s);have k2:=Kw.store (i:=1) (c:=p2) b rfl l u;have j:=Kw.store (i:=2) (c:=p3) e rfl m d;exact⟨n,h.kw ((k1.trans k2).trans j),((f.setCell (p:=⟨g,0,none⟩) a _).setCell (p:=⟨g,1,none⟩) a _).setCell (p:=⟨g,2,none⟩) a _⟩
theorem di (f:fn.results=#[.cell t 53])(i:a.tmps.getD t undef=az (U ⟨g,0,none⟩))(c:a.defers=[])
 (h:Qw w (af #[J s,u,d]) q)(r:Bx 53 w g [p1,p2,p3])(k:dA p1)(l:dA p2)(m:dA p3)(j:V w0 w)(e:w0.heap.size<=g):
 bodyPost ae fn (dq q w0) .ret a (((w.setCell ⟨g,0,none⟩ (J s)).setCell ⟨g,1,none⟩ u).setCell ⟨g,2,none⟩ d):=by
 obtain⟨n,b,u3⟩:=r6 h r k l m j e;exact a4 (cl f i g6 g7 n rfl) c ⟨_,rfl,b,u3⟩
theorem g8 (i:fn.results=#[.cell t 53,.tmp t'])(j:a.tmps.getD t undef=az (U ⟨g,0,none⟩))(hb:a.tmps.getD t' undef=J b)(e:a.defers=[])
 (h:Qw w (af #[J s,u,d]) q)(r:Bx 53 w g [p1,p2,p3])(l:dA p1)(m:dA p2)(n:dA p3)(k:V w0 w)(f:w0.heap.size<=g):
 bodyPost ae fn (eK q b w0) .ret a (((w.setCell ⟨g,0,none⟩ (J s)).setCell ⟨g,1,none⟩ u).setCell ⟨g,2,none⟩ d):=by
 obtain⟨o,c,u3⟩:=r6 h r l m n k f;refine a4 (ia i j g6 g7 o rfl) e ⟨_,by rw[hb],c,u3⟩
theorem Wh.mk (s:Bool)(h:Ws w u l)(a:l.length<=k):Wh w (af #[J s,u]) (E.iv s (E.val l)) k:=⟨s,u,l,rfl,h,rfl,a⟩
theorem zy (h:(E.words n).length<=k)(g:Nat):(E.words (n/g)).length<=k:=aQ (E.eS (Nat.div_le_self _ _)) h
theorem jn (h:Wh w v z j)(c:Ws w u m)(S:j<=100000000)(T:m.length<=100000000)(h0:E.val m≠0):aj ae 58 #[v,u] w (dq (mkRat z (E.val m)) w):=by
 obtain⟨s,X,q,rfl,a,x,U⟩:=h;have R:=zy (E.cr a.ok) (Nat.gcd (E.val q) (E.val m));obtain⟨y,N,rfl⟩:=a.form;obtain⟨ai,Q,rfl⟩:=c.form;subst x;have o:=G (E.yf s (E.val q) h0);clear h0;go_enter func58,ntmps58;go_wp2_with fail;generalize p:ah (ah w _) _=J at*;obtain⟨d,e,b⟩:=br p;clear p;replace a:=a.up d;replace c:=c.up d;have g:=e.c2;have n:=b.c3;have r:=b.free;go_wp2_with fail
 with_reducible refine(zj a c (by omega) (by omega)).mono ?_
 rintro t K ⟨F,H,rfl,i,l,u1⟩;revert d e b a c g n;refine bS u1 ?_;intro d e b a c g n;replace r:=b.free;clear u1;obtain⟨A,k1,c1,rfl⟩:=i.shape;go_wp2_with fail
 with_reducible refine(ke (Wh.mk s i (k:=100000000) (by omega)) (by omega)).mono ?_
 rintro t L ⟨I,rfl,f,u2⟩;revert l d e b a c g n i;refine bE u2 ?_;intro l d e b a c g n i;replace r:=b.free;clear u2;rw[E.bl]at f;obtain⟨M,rfl,f⟩:=f;obtain⟨C,V,P,rfl⟩:=f.shape;obtain⟨B,k2,c2,rfl⟩:=l.shape;go_wp2_with fail;exact di rfl rfl rfl (Qw.mk f l (by rw[o.out.1]) (by rw[o.out.1]) o.out.2) b trivial trivial trivial d (by omega)
def r7 (q:Rat)(k:Nat)(w:O)(e:aO)(c:O):Prop:=
 ∃f d ai b a,e=aw (aY #[af #[J f,d],ai])/\Ws c d b/\Ws c ai a/\Y (mkRat (E.iv f (E.val b)) (E.val a)=q/\E.val a≠0)/\b.length<=k/\a.length<=k/\V w c
theorem r8 (y:fn.results=#[.cell t 51,.tmp t'])(z:a.tmps.getD t undef=az (U ⟨g,0,none⟩))(n:a.tmps.getD t' undef=d)(j:a.defers=[])
 (h:Ws w u l)(f:Ws w d m)(x:Y (mkRat (E.iv s (E.val l)) (E.val m)=q/\E.val m≠0))(o:l.length<=k)(v:m.length<=k)(r:Bx 51 w g [p1,p2])(B:dA p1)(C:dA p2)(A:V w0 w)(b:w0.heap.size<=g):
 bodyPost ae fn (r7 q k w0) .ret a ((w.setCell ⟨g,0,none⟩ (J s)).setCell ⟨g,1,none⟩ u):=by
 have e:Bx 51 (w.setCell ⟨g,0,none⟩ (J s)) g [J s,p2]:=r.set 0 _;have D:Bx 51 ((w.setCell ⟨g,0,none⟩ (J s)).setCell ⟨g,1,none⟩ u) g [J s,u]:=e.set 1 _;have k1:=(Kw.store (i:=0) (c:=p1) r rfl B (J s)).trans (Kw.store (i:=1) (c:=p2) e rfl C u);exact a4 (ia y z hz hA D rfl) j ⟨s,u,d,l,m,by rw[n],h.kw k1,f.kw k1,x,o,v,(A.setCell (p:=⟨g,0,none⟩) b _).setCell (p:=⟨g,1,none⟩) b _⟩
theorem fP (h:Fr w v q k)(X:k<=100000000):aj ae 54 #[v] w (r7 q k w):=by
 obtain⟨C,Z,aa,A,l,rfl,d,c,o,M,P,L⟩:=h;obtain⟨F,I,rfl⟩:=d.form;obtain⟨ai,K,rfl⟩:=c.form
 by_cases j:E.val l=0
 .have t:Y (decide (E.val l=0)=true):=G (decide_eq_true j)
  have u:Y (mkRat (E.iv false (E.val [])) (E.val (E.words 1))=q/\E.val (E.words 1)≠0):=G (by
   rw[j,Rat.mkRat_zero]at o;rw[E.bl];exact⟨by rw[<-o];rfl,by omega⟩)
  have N:(E.words 1).length<=k:=aQ E.hs L;clear j o;go_enter func54,ntmps54;go_wp2_with fail;generalize m:ah (ah w _) _=y at*;obtain⟨a,e,b⟩:=br m;clear m;replace d:=d.up a;replace c:=c.up a;have p:=e.c3;have r:=b.c2;have x:=b.free;go_wp2_with fail
  with_reducible refine(iS c (by omega)).mono ?_
  rintro z H ⟨rfl,rfl⟩;rw[t.out];go_wp2_with fail
  with_reducible refine(h7 (n:=1) 1 rfl (by omega) _).mono ?_
  rintro z T ⟨S,rfl,B,u2⟩;revert a e b d c p r;refine bS u2 ?_;intro a e b d c p r
  replace x:=b.free;clear u2;obtain⟨R,k1,c1,rfl⟩:=B.shape;go_wp2_with fail;exact r8 rfl rfl rfl rfl (Ws.nil _) B u (by simp) N b trivial trivial a (by omega)
 .have t:Y (decide (E.val l=0)=false):=G (decide_eq_false j);have u:Y (mkRat (E.iv C (E.val A)) (E.val l)=q/\E.val l≠0):=G ⟨o,j⟩;clear j o;go_enter func54,ntmps54;go_wp2_with fail;generalize m:ah (ah w _) _=y at*;obtain⟨a,e,b⟩:=br m;clear m;replace d:=d.up a;replace c:=c.up a;have p:=e.c3;have r:=b.c2;have x:=b.free;go_wp2_with fail
  with_reducible refine(iS c (by omega)).mono ?_
  rintro z H ⟨rfl,rfl⟩;rw[t.out];go_wp2_with fail;obtain⟨f,g,i⟩:=p;have Q:=r;revert a e b d c f g i;refine b9 (V.refl y).drew ?_;intro a e b d c f g i
  have Q:=b.c2;have x:=b.free
  go_region_held3(λs=>V w s/\s.cell? ⟨w.heap.size,0,none⟩=U (J C)/\s.cell? ⟨w.heap.size,1,none⟩=U (D F A.length I)/\s.cell? ⟨w.heap.size,2,none⟩=U (D ai l.length K))
   (first|with_reducible exact⟨a,f,g,i⟩|with_reducible exact⟨(a.alloc_drew _),(aJ f),(aJ g),(aJ i)⟩|with_reducible exact⟨(a.dt _ _),(aK f),(aK g),(aK i)⟩|((try simp only[<-World.setCell_drew]);first|with_reducible exact⟨(us (us a)),(cf (cf f)),(cf (cf g)),(cf (cf i))⟩)|go_keep)
   (fail)
  go_wp2_with fail;simp only[<-World.setCell_drew];exact r8 (t':=3) rfl rfl rfl rfl d c u M P b trivial trivial a (by omega)
theorem cx {o:Obj}{q:am}(h:w.cell? q=U v):(w.alloc o).cell? q=U v:=(World.cell?_alloc_lt w o q (World.block_lt_of_cell? w _ h)).trans h
theorem cA {q:am}(h:w.cell? q=U v)(o:Obj):(w.alloc o).cell? q=U v:=cx h
theorem jo {q:am}(h:w.cell? q=U v)(o o':Obj):((w.alloc o).alloc o').cell? q=U v:=cx (cx h)
theorem G7 {q:am}(h:w.cell? q=U v)(o o' a:Obj):(((w.alloc o).alloc o').alloc a).cell? q=U v:=cx (jo h o o')
instance G8 {w:O} {p:am} {v:W}:HAppend (PLift (w.cell? p=U v)) Unit (PLift (∀o,(w.alloc o).cell? p=U v)):=⟨λa _=>⟨cA a.down⟩⟩
instance G9 {A B:Prop} {h4 h5:Obj->Prop} [l:HAppend (PLift A) Unit (PLift (∀o,h4 o))] [m:HAppend (PLift B) Unit (PLift (∀o,h5 o))]:HAppend (PLift (A/\B)) Unit (PLift (∀o,h4 o/\h5 o)):=⟨λa _=>⟨λo=>⟨(l.1 ⟨a.down.1⟩ ()).down o,(m.1 ⟨a.down.2⟩ ()).down o⟩⟩⟩
theorem ez [l:HAppend (PLift A) Unit (PLift B)](h:A):B:=(l.1 ⟨h⟩ ()).down
instance Ha {w:O} {p:am} {v:W}:HAppend (PLift (w.cell? p=U v)) Bool (PLift (∀o o',((w.alloc o).alloc o').cell? p=U v)):=⟨λa _=>⟨jo a.down⟩⟩
instance Hb {A B:Prop} {h4 h5:Obj->Obj->Prop} [l:HAppend (PLift A) Bool (PLift (∀o q,h4 o q))] [m:HAppend (PLift B) Bool (PLift (∀o q,h5 o q))]:HAppend (PLift (A/\B)) Bool (PLift (∀o q,h4 o q/\h5 o q)):=⟨λa _=>⟨λo q=>⟨(l.1 ⟨a.down.1⟩ true).down o q,(m.1 ⟨a.down.2⟩ true).down o q⟩⟩⟩
theorem f1 [l:HAppend (PLift A) Bool (PLift B)](h:A):B:=(l.1 ⟨h⟩ true).down
theorem dx (h:Fr w v q k)(M:k<=100000000):aj ae 28 #[v] w (dq q w):=by
 have b:=h;obtain⟨Z,aa,ab,Q,S,rfl,i,j,_⟩:=h;obtain⟨s,G,rfl⟩:=i.form;obtain⟨ai,L,rfl⟩:=j.form;clear i j;go_enter func28,ntmps28;go_wp2_with fail;generalize g:ah (ah w _) _=A at*;obtain⟨c,d,a⟩:=br g;clear g;replace b:=b.up c;have e:=d.c3;have f:=a.c3;have n:=a.free;go_wp2_with fail
 with_reducible refine(fP b (by omega)).mono ?_
 rintro o B ⟨r,Lp,y,R,T,rfl,p,pd,l,N,P,u1⟩;obtain⟨Ap,U,H,rfl⟩:=p.shape;obtain⟨t,V,I,rfl⟩:=pd.shape;revert c d a b e f;refine bO u1 ?_;intro c d a b e f;replace n:=a.free;clear u1;go_wp2_with fail
 with_reducible refine(jn (Wh.mk r p (k:=100000000) (by omega)) pd (by omega) (by omega) l.out.2).mono ?_
 rintro o C ⟨z,rfl,q1,u2⟩;revert p pd c d a b e f;refine b9 u2 ?_;intro p pd c d a b e f;replace n:=a.free;clear u2;rw[l.out.1]at q1;obtain⟨E,F,rfl,q1,m⟩:=q1;obtain⟨u,X,J,rfl⟩:=q1.shape;obtain⟨x,Y,K,rfl⟩:=m.shape;go_wp2_with fail;exact di rfl rfl rfl ⟨_,_,rfl,q1,m⟩ a trivial trivial trivial c (by omega)
theorem fQ (h:Fr w v q k)(I:k<=100000000):aj ae 23 #[v] w (iV (E.bU q.num) w):=by
 have a:=h;obtain⟨S,T,U,L,N,rfl,g,i,_⟩:=h;obtain⟨t,C,rfl⟩:=g.form;obtain⟨ai,H,rfl⟩:=i.form;clear g i;go_enter func23,ntmps23;go_wp2_with fail;generalize e:ah w _=y at*;obtain⟨c,b⟩:=aC e;clear e;replace a:=a.up c;have d:=b.c3;go_wp2_with fail
 with_reducible refine(fP a (by omega)).mono ?_
 rintro o m ⟨s,Lp,x,M,P,rfl,p,pd,j,J,K,u1⟩;obtain⟨Ap,Q,F,rfl⟩:=p.shape;obtain⟨u,R,G,rfl⟩:=pd.shape;revert c b a d;revert u1;refine dW ?_;intro c b a d;have n:=b.d3;go_wp2_with fail;clear n;generalize e:ah m _=z at*;obtain⟨r,f⟩:=aC e;clear e;have B:=b.lt;revert p pd c b a d;revert r;refine dX ?_;intro p pd c b a d;have l:=f.c2
 with_reducible refine(g5 (Wh.mk s p (k:=100000000) (by omega)) (by omega)).mono ?_
 rintro o A ⟨rfl,u3⟩;revert f p pd c b a d l;revert u3;refine el ?_;intro f p pd c b a d l;go_wp2;go_ret;refine⟨?_,c⟩;rw[<-j.out.1,E.rj _ _ j.out.2];rfl
theorem iW (h:Wh w v z j)(a:Ws w u m)(F:j<=100000000)(G:m.length<=100000000):aj ae 66 #[v,u] w (g4 (z*(E.val m:Int)) w):=by
 have c:=h;obtain⟨J,K,H,rfl,l,_⟩:=h;obtain⟨p,y,rfl⟩:=l.form;obtain⟨ai,B,rfl⟩:=a.form;clear l;go_enter func66,ntmps66;go_wp2_with fail;generalize i:ah (ah w _) _=s at*;obtain⟨d,f,b⟩:=br i;clear i;replace c:=c.up d;replace a:=a.up d;have g:=f.c2;have n:=b.c2;have o:=b.free;go_wp2_with fail
 with_reducible refine(kf c (Wh.mk false a (k:=100000000) (by omega)) (by omega) (by omega)).mono ?_
 rintro C t ⟨r,rfl,e,u1⟩;revert d f b c a g n;refine bS u1 ?_;intro d f b c a g n;replace o:=b.free;clear u1;obtain⟨x,rfl,e⟩:=e;obtain⟨q,I,A,rfl⟩:=e.shape;go_wp2_with fail;exact fB rfl rfl rfl ⟨_,rfl,e⟩ b trivial trivial d (by omega)
theorem f9 (h:Fr w v q j)(am:Fr w u r k)(bl:j<=20000000)(bm:k<=20000000):aj ae 36 #[v,u] w (iV (E.cI q r) w):=by
 have d:=h;have e:=am;obtain⟨s,bu,bv,aM,aS,rfl,an,aq,_⟩:=h;obtain⟨aW,bw,bx,aN,aT,rfl,ao,ar,_⟩:=am;obtain⟨aA,aG,rfl⟩:=an.form;obtain⟨ai,aI,rfl⟩:=aq.form;obtain⟨aB,aH,rfl⟩:=ao.form;obtain⟨aD,aL,rfl⟩:=ar.form;clear an aq ao ar;go_enter func36,ntmps36;go_wp2_with fail;generalize M:ah (ah w _) _=a8 at*;obtain⟨a,b,c⟩:=br M;clear M;replace d:=d.up a;replace e:=e.up a;have I:=b.c3;have K:=c.c3;go_wp2_with fail
 with_reducible refine(fP d (by omega)).mono ?_
 rintro T Y ⟨Q,Lp,a3,aR,aV,rfl,p,pd,aw,bo,bq,u1⟩;obtain⟨Ap,az,al,rfl⟩:=p.shape;obtain⟨a1,bt,bk,rfl⟩:=pd.shape;revert a b c d e I K;revert u1;refine eR ?_;intro a b c d e I K;have aa:=b.d3;have ab:=c.d3;go_wp2_with fail;clear aa ab;generalize M:ah Y _=a9 at*;obtain⟨X,f⟩:=aC M;clear M;have bf:=b.lt;have bh:=c.lt;revert p pd a b c d e I K;revert X;refine hV ?_;intro p pd a b c d e I K;have R:=f.c2
 with_reducible refine(fP e (by omega)).mono ?_
 rintro T Z ⟨P,a5,a2,aP,aU,rfl,o,g,av,bn,bp,u3⟩;obtain⟨ag,no,ak,rfl⟩:=o.shape;obtain⟨aZ,bs,bj,rfl⟩:=g.shape;revert f p pd a b c d e I K R;revert u3;refine qD ?_;intro f p pd a b c d e I K R;have aa:=b.d3;have ab:=c.d3;have aX:=f.d2;go_wp2_with fail;clear aa ab aX;generalize M:ah Z _=S at*;obtain⟨X,L⟩:=aC M;clear M;have bg:=b.lt;have bi:=c.lt;have bz:=f.lt;revert o g f p pd a b c d e I K;refine au X ?_;intro o g f p pd a b c d e I K;revert R;revert X;refine nL ?_;intro R;have aY:=L.c2;have aQ:=E.cr p.ok;have ay:=E.cr pd.ok;have aO:=E.cr o.ok;have ax:=E.cr g.ok;have aF:=(E.Lz.iv (s:=Q) aQ).mul (y:=(E.val aU:Int)) ax;have aE:=(E.Lz.iv (s:=P) aO).mul (y:=(E.val aV:Int)) ay;have a4:=E.g1 ay ax;have H:Wh S (af #[J Q,D Ap az al]) (E.iv Q (E.val aR)) 100000000:=Wh.mk Q p (by omega);have G:Wh S (af #[J P,D ag no ak]) (E.iv P (E.val aP)) 100000000:=Wh.mk P o (by omega);obtain⟨i,l,m⟩:=I;obtain⟨n,t,x⟩:=K;obtain⟨A,B⟩:=R;obtain⟨C,F⟩:=aY;revert L o g f p pd b c d e H G;refine au (V.refl S).drew ?_;intro L o g f p pd b c d e H G;revert a i l m n t x A B C F;refine bC (V.refl S).drew ?_;intro a i l m n t x A B C F
 go_region_held3(λz=>V w z/\z.cell? ⟨w.heap.size,0,none⟩=U (J s)/\z.cell? ⟨w.heap.size,1,none⟩=U (D aA aM.length aG)/\z.cell? ⟨w.heap.size,2,none⟩=U (D ai aS.length aI)/\z.cell? ⟨w.heap.size+1,0,none⟩=U (J aW)/\z.cell? ⟨w.heap.size+1,1,none⟩=U (D aB aN.length aH)/\z.cell? ⟨w.heap.size+1,2,none⟩=U (D aD aT.length aL)/\z.cell? ⟨Y.heap.size,0,none⟩=U (J Q)/\z.cell? ⟨Y.heap.size,1,none⟩=U (D Ap az al)/\z.cell? ⟨Z.heap.size,0,none⟩=U (J P)/\z.cell? ⟨Z.heap.size,1,none⟩=U (D ag no ak))
  (first|with_reducible exact⟨a,i,l,m,n,t,x,A,B,C,F⟩|with_reducible exact⟨(a.alloc_drew _),(aJ i),(aJ l),(aJ m),(aJ n),(aJ t),(aJ x),(aJ A),(aJ B),(aJ C),(aJ F)⟩|with_reducible exact⟨(a.dt _ _),(aK i),(aK l),(aK m),(aK n),(aK t),(aK x),(aK A),(aK B),(aK C),(aK F)⟩|go_keep)
  ((first
    |(go_at_call 66
      with_reducible refine(iW H g (by omega) (by omega)).mono ?_
      rintro T ba ⟨a6,rfl,N,u5⟩;revert L o g f p pd b c d e H G;refine au u5 ?_;intro L o g f p pd b c d e H G;revert a i l m n t x A B C F;refine bC u5 ?_;intro a i l m n t x A B C F
      try(replace N:=N.up u5)
      try(replace y:=y.up u5)
      clear u5)
    |(go_at_call 66
      with_reducible refine(iW G pd (by omega) (by omega)).mono ?_
      rintro T bb ⟨a7,rfl,y,u6⟩;revert L o g f p pd b c d e H G;refine au u6 ?_;intro L o g f p pd b c d e H G;revert a i l m n t x A B C F;refine bC u6 ?_;intro a i l m n t x A B C F
      try(replace N:=N.up u6)
      try(replace y:=y.up u6)
      clear u6)
    |(go_at_call 65
      with_reducible refine(zu (N.wh aF) (y.wh aE) (by omega) (by omega)).mono ?_
      rintro T bd ⟨rfl,u7⟩;revert L o g f p pd b c d e H G;refine au u7 ?_;intro L o g f p pd b c d e H G;revert a i l m n t x A B C F;refine bC u7 ?_;intro a i l m n t x A B C F
      try(replace N:=N.up u7)
      try(replace y:=y.up u7)
      clear u7)))
 all_goals
  go_wp2;go_ret;refine⟨?_,a⟩;rw[<-aw.out.1,<-av.out.1,E.yg _ _ aw.out.2 av.out.2];rfl
theorem gc (h:Fr w v q j)(aH:Fr w u r k)(bN:j<=20000000)(bO:k<=20000000):aj ae 61 #[v,u] w (dq (q+r) w):=by
 have f:=h;have g:=aH;obtain⟨s,bZ,b0,a5,a9,rfl,aI,aM,_⟩:=h;obtain⟨bb,b1,b2,a6,ba,rfl,aL,aN,_⟩:=aH;obtain⟨aU,a1,rfl⟩:=aI.form;obtain⟨ai,a3,rfl⟩:=aM.form;obtain⟨aV,a2,rfl⟩:=aL.form;obtain⟨aW,a4,rfl⟩:=aN.form;clear aI aM aL aN;go_enter func61,ntmps61;go_wp2_with fail;generalize Z:ah (ah (ah w _) _) _=bt at*;obtain⟨b,d,e,a⟩:=dm Z;clear Z;replace f:=f.up b;replace g:=g.up b;have S:=d.c3;have T:=e.c3;have X:=a.c3;have R:=a.free;go_wp2_with fail
 with_reducible refine(fP f (by omega)).mono ?_
 rintro aa ao ⟨ak,Lp,bl,aQ,an,rfl,p,pd,ax,bQ,bS,u1⟩;obtain⟨Ap,aS,aG,rfl⟩:=p.shape;obtain⟨bh,bU,bK,rfl⟩:=pd.shape;revert b d e a f g S T X;refine bE u1 ?_;intro b d e a f g S T X;replace R:=a.free;clear u1;have ar:=d.d3;have av:=e.d3;have ay:=a.d3;have az:=a.fa;go_wp2_with fail;clear ar av ay az;generalize Z:ah ao _=bu at*;obtain⟨ab,c⟩:=aC Z;clear Z;have bF:=d.lt;have bH:=e.lt;have bX:=a.lt;revert p pd b d e a f g S T X;refine bC ab ?_;intro p pd b d e a f g S T X;replace R:=a.free;clear ab;have aA:=c.c2
 with_reducible refine(fP g (by omega)).mono ?_
 rintro aa aq ⟨ag,bn,bk,aO,am,rfl,o,l,aw,bP,bR,u3⟩;obtain⟨aB,no,aF,rfl⟩:=o.shape;obtain⟨bg,bT,bJ,rfl⟩:=l.shape;revert c p pd b d e a f g S T X;refine au u3 ?_;intro c p pd b d e a f g S T X;replace R:=a.free;replace aA:=c.c2;clear u3;have ar:=d.d3;have av:=e.d3;have ay:=a.d3;have az:=a.fa;have bd:=c.d2;go_wp2_with fail;clear ar av ay az bd;generalize Z:ah aq _=al at*;obtain⟨ab,i⟩:=aC Z;clear Z;have bG:=d.lt;have bI:=e.lt;have bY:=a.lt;have b3:=c.lt;revert o l c p pd b d e a f g S;refine au ab ?_;intro o l c p pd b d e a f g S;revert T X;refine cR ab ?_;intro T X;replace R:=a.free;replace aA:=c.c2;clear ab;have bf:=i.c2;have a8:=E.cr p.ok;have aR:=E.cr pd.ok;have a7:=E.cr o.ok;have aP:=E.cr l.ok;have aE:=(E.Lz.iv (s:=ak) a8).mul (y:=(E.val am:Int)) aP;have aD:=(E.Lz.iv (s:=ag) a7).mul (y:=(E.val an:Int)) aR;have bm:=E.g1 aR aP;have K:Wh al (af #[J ak,D Ap aS aG]) (E.iv ak (E.val aQ)) 100000000:=Wh.mk ak p (by omega);have I:Wh al (af #[J ag,D aB no aF]) (E.iv ag (E.val aO)) 100000000:=Wh.mk ag o (by omega);have aX:Y (E.val (E.words (E.val an*E.val am))≠0):=G (by rw[E.bl];exact Nat.mul_ne_zero ax.out.2 aw.out.2)
 have aY:Y (mkRat (E.iv ak (E.val aQ)*(E.val am:Int)+E.iv ag (E.val aO)*(E.val an:Int)) (E.val (E.words (E.val an*E.val am)))=q+r):=G (by
  rw[E.bl,<-ax.out.1,<-aw.out.1,Rat.mkRat_add_mkRat _ _ ax.out.2 aw.out.2])
 have aZ:=aE.add aD;obtain⟨m,n,t⟩:=S;obtain⟨x,z,A⟩:=T;have M:=X;obtain⟨B,C⟩:=aA;obtain⟨F,H⟩:=bf;clear B C F H;revert o l c p pd d e a f g K I;refine au (V.refl al).drew ?_;intro o l c p pd d e a f g K I;revert i b m n t x z A;refine b9 (V.refl al).drew ?_;intro i b m n t x z A;have M:=a.c3;have R:=a.free;obtain⟨B,C⟩:=c.c2;obtain⟨F,H⟩:=i.c2
 go_region_held3(λN=>V w N/\N.cell? ⟨w.heap.size,0,none⟩=U (J s)/\N.cell? ⟨w.heap.size,1,none⟩=U (D aU a5.length a1)/\N.cell? ⟨w.heap.size,2,none⟩=U (D ai a9.length a3)/\N.cell? ⟨w.heap.size+1,0,none⟩=U (J bb)/\N.cell? ⟨w.heap.size+1,1,none⟩=U (D aV a6.length a2)/\N.cell? ⟨w.heap.size+1,2,none⟩=U (D aW ba.length a4)/\N.cell? ⟨ao.heap.size,0,none⟩=U (J ak)/\N.cell? ⟨ao.heap.size,1,none⟩=U (D Ap aS aG)/\N.cell? ⟨aq.heap.size,0,none⟩=U (J ag)/\N.cell? ⟨aq.heap.size,1,none⟩=U (D aB no aF))
  (first|with_reducible exact⟨b,m,n,t,x,z,A,B,C,F,H⟩|with_reducible exact⟨(b.alloc_drew _),(aJ m),(aJ n),(aJ t),(aJ x),(aJ z),(aJ A),(aJ B),(aJ C),(aJ F),(aJ H)⟩|with_reducible exact⟨(b.dt _ _),(aK m),(aK n),(aK t),(aK x),(aK z),(aK A),(aK B),(aK C),(aK F),(aK H)⟩|((try simp only[<-World.setCell_drew]);first|with_reducible exact⟨(us (us (us b))),(cf (cf (cf m))),(cf (cf (cf n))),(cf (cf (cf t))),(cf (cf (cf x))),(cf (cf (cf z))),(cf (cf (cf A))),(cf (cf (cf B))),(cf (cf (cf C))),(cf (cf (cf F))),(cf (cf (cf H)))⟩)|go_keep)
  ((first
    |(go_at_call 66
      with_reducible refine(iW K l (by omega) (by omega)).mono ?_
      rintro aa bv ⟨bo,rfl,P,u5⟩;clear B C F H;revert o l c p pd d e a f g K I;refine au u5 ?_;intro o l c p pd d e a f g K I;revert i b m n t x z A M;refine bE u5 ?_;intro i b m n t x z A M
      try(replace P:=P.up u5)
      try(replace y:=y.up u5)
      try(replace L:=L.up u5)
      try(replace Q:=Q.up u5)
      try(replace q1:=q1.up u5)
      replace R:=a.free;obtain⟨B,C⟩:=c.c2;obtain⟨F,H⟩:=i.c2;clear u5)
    |(go_at_call 66
      with_reducible refine(iW I pd (by omega) (by omega)).mono ?_
      rintro aa bw ⟨bp,rfl,y,u6⟩;clear B C F H;revert o l c p pd d e a f g K I;refine au u6 ?_;intro o l c p pd d e a f g K I;revert i b m n t x z A M;refine bE u6 ?_;intro i b m n t x z A M
      try(replace P:=P.up u6)
      try(replace y:=y.up u6)
      try(replace L:=L.up u6)
      try(replace Q:=Q.up u6)
      try(replace q1:=q1.up u6)
      replace R:=a.free;obtain⟨B,C⟩:=c.c2;obtain⟨F,H⟩:=i.c2;clear u6)
    |(go_at_call 72
      with_reducible refine(jj pd l (by omega) (by omega)).mono ?_
      rintro aa bx ⟨bq,rfl,L,u7⟩;clear B C F H;revert o l c p pd d e a f g K I;refine au u7 ?_;intro o l c p pd d e a f g K I;revert i b m n t x z A M;refine bE u7 ?_;intro i b m n t x z A M
      try(replace P:=P.up u7)
      try(replace y:=y.up u7)
      try(replace L:=L.up u7)
      try(replace Q:=Q.up u7)
      try(replace q1:=q1.up u7)
      replace R:=a.free;obtain⟨B,C⟩:=c.c2;obtain⟨F,H⟩:=i.c2;clear u7)
    |(go_at_call 103
      with_reducible refine(oD (P.wh aE) (y.wh aD) (by omega) (by omega)).mono ?_
      rintro aa bz ⟨br,rfl,Q,u8⟩;clear B C F H;revert o l c p pd d e a f g K I;refine au u8 ?_;intro o l c p pd d e a f g K I;revert i b m n t x z A M;refine bE u8 ?_;intro i b m n t x z A M
      try(replace P:=P.up u8)
      try(replace y:=y.up u8)
      try(replace L:=L.up u8)
      try(replace Q:=Q.up u8)
      try(replace q1:=q1.up u8)
      replace R:=a.free;obtain⟨B,C⟩:=c.c2;obtain⟨F,H⟩:=i.c2;clear u8)
    |(go_at_call 58
      with_reducible refine(jn (Q.wh aZ) L (by omega) (by omega) aX.out).mono ?_
      rintro aa bA ⟨bs,rfl,q1,u9⟩;clear B C F H;revert o l c p pd d e a f g K I;refine au u9 ?_;intro o l c p pd d e a f g K I;revert i b m n t x z A M;refine bE u9 ?_;intro i b m n t x z A M
      try(replace P:=P.up u9)
      try(replace y:=y.up u9)
      try(replace L:=L.up u9)
      try(replace Q:=Q.up u9)
      try(replace q1:=q1.up u9)
      replace R:=a.free;obtain⟨B,C⟩:=c.c2;obtain⟨F,H⟩:=i.c2;clear u9;rw[aY.out]at q1;obtain⟨bB,bD,rfl,q1,aT⟩:=q1;obtain⟨bi,bV,bL,rfl⟩:=q1.shape;obtain⟨bj,bW,bM,rfl⟩:=aT.shape)))
 all_goals
  go_wp2;exact di rfl rfl rfl ⟨_,_,rfl,q1,aT⟩ a trivial trivial trivial b (by omega)
theorem sa (h:Fr w v q j)(aL:Fr w u r k)(bN:j<=20000000)(bO:k<=20000000):aj ae 42 #[v,u] w (dq (q-r) w):=by
 have f:=h;have g:=aL;obtain⟨s,bZ,b0,a5,a9,rfl,aM,aO,_⟩:=h;obtain⟨bb,b1,b2,a6,ba,rfl,aN,aP,_⟩:=aL;obtain⟨aU,a1,rfl⟩:=aM.form;obtain⟨ai,a3,rfl⟩:=aO.form;obtain⟨aV,a2,rfl⟩:=aN.form;obtain⟨aW,a4,rfl⟩:=aP.form;clear aM aO aN aP;go_enter func42,ntmps42;go_wp2_with fail;generalize Z:ah (ah (ah w _) _) _=bt at*;obtain⟨b,d,e,a⟩:=dm Z;clear Z;replace f:=f.up b;replace g:=g.up b;have S:=d.c3;have T:=e.c3;have X:=a.c3;have R:=a.free;go_wp2_with fail
 with_reducible refine(fP f (by omega)).mono ?_
 rintro ag ao ⟨ab,Lp,bl,az,am,rfl,p,pd,ax,bQ,bS,u1⟩;obtain⟨Ap,aS,aI,rfl⟩:=p.shape;obtain⟨bh,bU,bK,rfl⟩:=pd.shape;revert b d e a f g S T X;refine bE u1 ?_;intro b d e a f g S T X;replace R:=a.free;clear u1;have ar:=d.d3;have av:=e.d3;have aA:=a.d3;have aB:=a.fa;go_wp2_with fail;clear ar av aA aB;generalize Z:ah ao _=bu at*;obtain⟨ak,c⟩:=aC Z;clear Z;have bF:=d.lt;have bH:=e.lt;have bX:=a.lt;revert p pd b d e a f g S T X;refine bC ak ?_;intro p pd b d e a f g S T X;replace R:=a.free;clear ak;have aD:=c.c2
 with_reducible refine(fP g (by omega)).mono ?_
 rintro ag aq ⟨aa,bn,bk,ay,al,rfl,o,l,aw,bP,bR,u3⟩;obtain⟨aE,no,aH,rfl⟩:=o.shape;obtain⟨bg,bT,bJ,rfl⟩:=l.shape;revert c p pd b d e a f g S T X;refine au u3 ?_;intro c p pd b d e a f g S T X;replace R:=a.free;replace aD:=c.c2;clear u3;have ar:=d.d3;have av:=e.d3;have aA:=a.d3;have aB:=a.fa;have bd:=c.d2;go_wp2_with fail;clear ar av aA aB bd;generalize Z:ah aq _=an at*;obtain⟨ak,i⟩:=aC Z;clear Z;have bG:=d.lt;have bI:=e.lt;have bY:=a.lt;have b3:=c.lt;revert o l c p pd b d e a f g S;refine au ak ?_;intro o l c p pd b d e a f g S;revert T X;refine cR ak ?_;intro T X;replace R:=a.free;replace aD:=c.c2;clear ak;have bf:=i.c2;have a8:=E.cr p.ok;have aR:=E.cr pd.ok;have a7:=E.cr o.ok;have aQ:=E.cr l.ok;have aG:=(E.Lz.iv (s:=ab) a8).mul (y:=(E.val al:Int)) aQ;have aF:=(E.Lz.iv (s:=aa) a7).mul (y:=(E.val am:Int)) aR;have bm:=E.g1 aR aQ;have K:Wh an (af #[J ab,D Ap aS aI]) (E.iv ab (E.val az)) 100000000:=Wh.mk ab p (by omega);have I:Wh an (af #[J aa,D aE no aH]) (E.iv aa (E.val ay)) 100000000:=Wh.mk aa o (by omega);have aX:Y (E.val (E.words (E.val am*E.val al))≠0):=G (by rw[E.bl];exact Nat.mul_ne_zero ax.out.2 aw.out.2)
 have aY:Y (mkRat (E.iv ab (E.val az)*(E.val al:Int)-E.iv aa (E.val ay)*(E.val am:Int)) (E.val (E.words (E.val am*E.val al)))=q-r):=G (by
  rw[E.bl,<-ax.out.1,<-aw.out.1,E.rk _ _ ax.out.2 aw.out.2])
 have aZ:=(by have:=aG.add aF.neg;rwa [<-Int.sub_eq_add_neg]at this:E.Lz (E.iv ab (E.val az)*(E.val al:Int)-E.iv aa (E.val ay)*(E.val am:Int)) _);obtain⟨m,n,t⟩:=S;obtain⟨x,z,A⟩:=T;have M:=X;obtain⟨B,C⟩:=aD;obtain⟨F,H⟩:=bf;clear B C F H;revert o l c p pd d e a f g K I;refine au (V.refl an).drew ?_;intro o l c p pd d e a f g K I;revert i b m n t x z A;refine b9 (V.refl an).drew ?_;intro i b m n t x z A;have M:=a.c3;have R:=a.free;obtain⟨B,C⟩:=c.c2;obtain⟨F,H⟩:=i.c2
 go_region_held3(λN=>V w N/\N.cell? ⟨w.heap.size,0,none⟩=U (J s)/\N.cell? ⟨w.heap.size,1,none⟩=U (D aU a5.length a1)/\N.cell? ⟨w.heap.size,2,none⟩=U (D ai a9.length a3)/\N.cell? ⟨w.heap.size+1,0,none⟩=U (J bb)/\N.cell? ⟨w.heap.size+1,1,none⟩=U (D aV a6.length a2)/\N.cell? ⟨w.heap.size+1,2,none⟩=U (D aW ba.length a4)/\N.cell? ⟨ao.heap.size,0,none⟩=U (J ab)/\N.cell? ⟨ao.heap.size,1,none⟩=U (D Ap aS aI)/\N.cell? ⟨aq.heap.size,0,none⟩=U (J aa)/\N.cell? ⟨aq.heap.size,1,none⟩=U (D aE no aH))
  (first|with_reducible exact⟨b,m,n,t,x,z,A,B,C,F,H⟩|with_reducible exact⟨(b.alloc_drew _),(aJ m),(aJ n),(aJ t),(aJ x),(aJ z),(aJ A),(aJ B),(aJ C),(aJ F),(aJ H)⟩|with_reducible exact⟨(b.dt _ _),(aK m),(aK n),(aK t),(aK x),(aK z),(aK A),(aK B),(aK C),(aK F),(aK H)⟩|((try simp only[<-World.setCell_drew]);first|with_reducible exact⟨(us (us (us b))),(cf (cf (cf m))),(cf (cf (cf n))),(cf (cf (cf t))),(cf (cf (cf x))),(cf (cf (cf z))),(cf (cf (cf A))),(cf (cf (cf B))),(cf (cf (cf C))),(cf (cf (cf F))),(cf (cf (cf H)))⟩)|go_keep)
  ((first
    |(go_at_call 66
      with_reducible refine(iW K l (by omega) (by omega)).mono ?_
      rintro ag bv ⟨bo,rfl,P,u5⟩;clear B C F H;revert o l c p pd d e a f g K I;refine au u5 ?_;intro o l c p pd d e a f g K I;revert i b m n t x z A M;refine bE u5 ?_;intro i b m n t x z A M
      try(replace P:=P.up u5)
      try(replace y:=y.up u5)
      try(replace L:=L.up u5)
      try(replace Q:=Q.up u5)
      try(replace q1:=q1.up u5)
      replace R:=a.free;obtain⟨B,C⟩:=c.c2;obtain⟨F,H⟩:=i.c2;clear u5)
    |(go_at_call 66
      with_reducible refine(iW I pd (by omega) (by omega)).mono ?_
      rintro ag bw ⟨bp,rfl,y,u6⟩;clear B C F H;revert o l c p pd d e a f g K I;refine au u6 ?_;intro o l c p pd d e a f g K I;revert i b m n t x z A M;refine bE u6 ?_;intro i b m n t x z A M
      try(replace P:=P.up u6)
      try(replace y:=y.up u6)
      try(replace L:=L.up u6)
      try(replace Q:=Q.up u6)
      try(replace q1:=q1.up u6)
      replace R:=a.free;obtain⟨B,C⟩:=c.c2;obtain⟨F,H⟩:=i.c2;clear u6)
    |(go_at_call 72
      with_reducible refine(jj pd l (by omega) (by omega)).mono ?_
      rintro ag bx ⟨bq,rfl,L,u7⟩;clear B C F H;revert o l c p pd d e a f g K I;refine au u7 ?_;intro o l c p pd d e a f g K I;revert i b m n t x z A M;refine bE u7 ?_;intro i b m n t x z A M
      try(replace P:=P.up u7)
      try(replace y:=y.up u7)
      try(replace L:=L.up u7)
      try(replace Q:=Q.up u7)
      try(replace q1:=q1.up u7)
      replace R:=a.free;obtain⟨B,C⟩:=c.c2;obtain⟨F,H⟩:=i.c2;clear u7)
    |(go_at_call 80
      with_reducible refine(jm (P.wh aG) (y.wh aF) (by omega) (by omega)).mono ?_
      rintro ag bz ⟨br,rfl,Q,u8⟩;clear B C F H;revert o l c p pd d e a f g K I;refine au u8 ?_;intro o l c p pd d e a f g K I;revert i b m n t x z A M;refine bE u8 ?_;intro i b m n t x z A M
      try(replace P:=P.up u8)
      try(replace y:=y.up u8)
      try(replace L:=L.up u8)
      try(replace Q:=Q.up u8)
      try(replace q1:=q1.up u8)
      replace R:=a.free;obtain⟨B,C⟩:=c.c2;obtain⟨F,H⟩:=i.c2;clear u8)
    |(go_at_call 58
      with_reducible refine(jn (Q.wh aZ) L (by omega) (by omega) aX.out).mono ?_
      rintro ag bA ⟨bs,rfl,q1,u9⟩;clear B C F H;revert o l c p pd d e a f g K I;refine au u9 ?_;intro o l c p pd d e a f g K I;revert i b m n t x z A M;refine bE u9 ?_;intro i b m n t x z A M
      try(replace P:=P.up u9)
      try(replace y:=y.up u9)
      try(replace L:=L.up u9)
      try(replace Q:=Q.up u9)
      try(replace q1:=q1.up u9)
      replace R:=a.free;obtain⟨B,C⟩:=c.c2;obtain⟨F,H⟩:=i.c2;clear u9;rw[aY.out]at q1;obtain⟨bB,bD,rfl,q1,aT⟩:=q1;obtain⟨bi,bV,bL,rfl⟩:=q1.shape;obtain⟨bj,bW,bM,rfl⟩:=aT.shape)))
 all_goals
  go_wp2;exact di rfl rfl rfl ⟨_,_,rfl,q1,aT⟩ a trivial trivial trivial b (by omega)
theorem gd {fc:Rat}{h6:Bool}(eq:fc=q)(c:h6=b)(i:fn.results=#[.cell t 53,.tmp t'])(j:a.tmps.getD t undef=az (U ⟨g,0,none⟩))(hb:a.tmps.getD t' undef=J b)(e:a.defers=[])
 (h:Qw w (af #[J s,u,d]) q)(r:Bx 53 w g [p1,p2,p3])(l:dA p1)(m:dA p2)(n:dA p3)(k:V w0 w)(f:w0.heap.size<=g):
 bodyPost ae fn (eK fc h6 w0) .ret a (((w.setCell ⟨g,0,none⟩ (J s)).setCell ⟨g,1,none⟩ u).setCell ⟨g,2,none⟩ d):=by
 subst eq c;exact g8 i j hb e h r l m n k f
theorem ib (h:Fr w v q j)(P:Fr w u r k)(a6:j<=20000000)(a7:k<=20000000):aj ae 38 #[v,u] w (dq (q*r) w):=by
 have e:=h;have f:=P;obtain⟨s,bs,bt,bd,bh,rfl,Q,S,_⟩:=h;obtain⟨br,bu,bv,bg,bi,rfl,R,T,_⟩:=P;obtain⟨aq,aV,rfl⟩:=Q.form;obtain⟨ai,a4,rfl⟩:=S.form;obtain⟨ar,aW,rfl⟩:=R.form;obtain⟨aA,a5,rfl⟩:=T.form;clear Q S R T;go_enter func38,ntmps38;go_wp2_with fail;generalize x:ah (ah (ah w _) _) _=aJ at*;obtain⟨g,b,c,a⟩:=dm x;clear x;replace e:=e.up g;replace f:=f.up g;have i:=b.c3;have l:=c.c3;have m:=a.c3;have y:=a.free;go_wp2_with fail
 with_reducible refine(fP e (by omega)).mono ?_
 rintro C ak ⟨M,Lp,aD,an,Z,rfl,p,pd,V,a9,bb,u1⟩;obtain⟨Ap,bk,aZ,rfl⟩:=p.shape;obtain⟨ax,bl,a1,rfl⟩:=pd.shape;revert g b c a e f i l m;refine bE u1 ?_;intro g b c a e f i l m;replace y:=a.free;clear u1;have F:=b.d3;have H:=c.d3;have J:=a.d3;have K:=a.fa;go_wp2_with fail;clear F H J K;generalize x:ah ak _=aK at*;obtain⟨z,d⟩:=aC x;clear x;have aR:=b.lt;have aT:=c.lt;have bp:=a.lt;revert p pd g b c a e f i l m;refine bC z ?_;intro p pd g b c a e f i l m;replace y:=a.free;clear z;have A:=d.c2
 with_reducible refine(fP f (by omega)).mono ?_
 rintro C al ⟨L,aF,aB,am,X,rfl,o,n,U,a8,ba,u3⟩;obtain⟨av,no,aX,rfl⟩:=o.shape;obtain⟨aw,bj,aY,rfl⟩:=n.shape;revert d p pd g b c a e f i l m;refine au u3 ?_;intro d p pd g b c a e f i l m;replace y:=a.free;replace A:=d.c2;clear u3;have ab:Y (E.val (E.words (E.val Z*E.val X))≠0):=G (by rw[E.bl];exact Nat.mul_ne_zero V.out.2 U.out.2)
 have af:Y (mkRat (E.iv M (E.val an)*E.iv L (E.val am)) (E.val (E.words (E.val Z*E.val X)))=q*r):=G (by
  rw[E.bl,<-V.out.1,<-U.out.1,Rat.mkRat_mul_mkRat])
 have ag:=(E.Lz.iv (s:=M) (E.cr p.ok)).mul (E.Lz.iv (s:=L) (E.cr o.ok));have aE:=E.g1 (E.cr pd.ok) (E.cr n.ok);have F:=b.d3;have H:=c.d3;have J:=a.d3;have K:=a.fa;have ao:=d.d2;go_wp2_with fail;clear F H J K ao;generalize x:ah al _=aL at*;obtain⟨z,t⟩:=aC x;clear x;have aS:=b.lt;have aU:=c.lt;have bq:=a.lt;have bw:=d.lt;revert o n d p pd g b c a e f i;refine au z ?_;intro o n d p pd g b c a e f i;revert l m;refine cR z ?_;intro l m;replace y:=a.free;replace A:=d.c2;clear z;have N:=t.c2
 with_reducible refine(kf (Wh.mk M p (k:=100000000) (by omega)) (Wh.mk L o (k:=100000000) (by omega)) (by omega) (by omega)).mono ?_
 rintro C aM ⟨aG,rfl,B,u5⟩;revert t o n d p pd g b c a e f;refine au u5 ?_;intro t o n d p pd g b c a e f;revert i l m;refine bo u5 ?_;intro i l m;replace y:=a.free;replace A:=d.c2;replace N:=t.c2;clear u5;go_wp2_with fail
 with_reducible refine(jj pd n (by omega) (by omega)).mono ?_
 rintro C aN ⟨aH,rfl,I,u6⟩;revert B t o n d p pd b c a e f;refine au u6 ?_;intro B t o n d p pd b c a e f;revert g i l m;refine bf u6 ?_;intro g i l m;replace y:=a.free;replace A:=d.c2;replace N:=t.c2;clear u6;go_wp2_with fail
 with_reducible refine(jn (B.wh ag) I (by omega) (by omega) ab.out).mono ?_
 rintro C aO ⟨aI,rfl,q1,u7⟩;revert I B o n d p pd b c a e f;refine au u7 ?_;intro I B o n d p pd b c a e f;revert t g i l m;refine b8 u7 ?_;intro t g i l m;replace y:=a.free;replace A:=d.c2;replace N:=t.c2;clear u7;rw[af.out]at q1;obtain⟨aP,aQ,rfl,q1,aa⟩:=q1;obtain⟨ay,bm,a2,rfl⟩:=q1.shape;obtain⟨az,bn,a3,rfl⟩:=aa.shape;go_wp2_with fail;exact di rfl rfl rfl ⟨_,_,rfl,q1,aa⟩ a trivial trivial trivial g (by omega)
theorem fd {n:Int}(j: -9223372036854775808<=n/\n<=9223372036854775807)(w:O):aj ae 22 #[H I n] w (dq (n:Rat) w):=by
 go_enter func22,ntmps22;go_wp2_with fail;generalize e:ah w _=p at*;obtain⟨c,a⟩:=aC e;clear e;have d:=a.c3;have g:=a.free;go_wp2_with fail
 with_reducible refine(oE j _).mono ?_
 rintro i r ⟨m,rfl,b,u1⟩;revert c a d;refine bo u1 ?_;intro c a d;replace g:=a.free;clear u1;obtain⟨t,rfl,b⟩:=b;obtain⟨l,v,u,rfl⟩:=b.shape;go_wp2_with fail
 with_reducible refine(h7 (n:=1) 1 rfl (by omega) _).mono ?_
 rintro i s ⟨o,rfl,f,u2⟩;revert c a d b;refine bf u2 ?_;intro c a d b;replace g:=a.free;clear u2;obtain⟨k,k1,c1,rfl⟩:=f.shape;go_wp2_with fail;exact di rfl rfl rfl (Qw.mk (q:=(n:Rat)) b f rfl rfl rfl) a trivial trivial trivial c (by omega)
theorem g9 (w:O):aj ae 22 #[H I 0] w (dq 0 w):=fd (n:=0) (by omega) w
theorem oF (h:Fr w v q j)(aP:Fr w u r k)(b7:j<=20000000)(b8:k<=20000000):aj ae 73 #[v,u] w (eK (q/r) (!decide (r=0)) w):=by
 have f:=h;have g:=aP;obtain⟨s,cl,cm,bv,bz,rfl,aR,aT,_⟩:=h;obtain⟨t,cn,co,bx,bA,rfl,aS,aU,_⟩:=aP;obtain⟨aZ,bl,rfl⟩:=aR.form;obtain⟨ai,bs,rfl⟩:=aT.form;obtain⟨a1,bm,rfl⟩:=aS.form;obtain⟨a5,bt,rfl⟩:=aU.form;clear aR aT aS aU;go_enter func73,ntmps73;go_wp2_with fail;generalize B:ah (ah (ah w _) _) _=bS at*;obtain⟨e,c,d,a⟩:=dm B;clear B;replace f:=f.up e;replace g:=g.up e;have m:=c.c3;have n:=d.c3;have x:=a.c3;have H:=a.free;go_wp2_with fail
 with_reducible refine(fP f (by omega)).mono ?_
 rintro z ay ⟨aE,Lp,bN,aV,aX,rfl,p,pd,aL,ca,cc,u1⟩;obtain⟨Ap,bB,bp,rfl⟩:=p.shape;obtain⟨bL,cg,b6,rfl⟩:=pd.shape;revert e c d a f g m n x;refine bE u1 ?_;intro e c d a f g m n x;replace H:=a.free;clear u1;have am:=c.d3;have an:=d.d3;have ao:=a.d3;have aq:=a.fa;go_wp2_with fail;clear am an ao aq;generalize B:ah ay _=bT at*;obtain⟨C,b⟩:=aC B;clear B;have bY:=c.lt;have b2:=d.lt;have ci:=a.lt;revert p pd e c d a f g m n x;refine bC C ?_;intro p pd e c d a f g m n x;replace H:=a.free;clear C;have ag:=b.c2
 with_reducible refine(fP g (by omega)).mono ?_
 rintro z av ⟨K,bP,bM,ax,aW,rfl,o,l,az,b9,cb,u3⟩;obtain⟨a2,no,bn,rfl⟩:=o.shape;obtain⟨bK,ce,b5,rfl⟩:=l.shape;revert b p pd e c d a f g m n x;refine au u3 ?_;intro b p pd e c d a f g m n x;replace H:=a.free;replace ag:=b.c2;clear u3
 by_cases ak:E.val ax=0
 .have aG:Y (q/r=0/\(!decide (r=0))=false):=G (by
   have z:r=0:=by rw[<-az.out.1,ak,E.jh,Rat.zero_mkRat]
   subst z;exact⟨by rw[Rat.div_def,Rat.inv_zero,Rat.mul_zero],by simp⟩)
  have a9:Y (E.bU (E.iv K (E.val ax))=0):=G (by rw[ak,E.jh];rfl);clear ak;have am:=c.d3;have an:=d.d3;have ao:=a.d3;have aq:=a.fa;have aF:=b.d2;go_wp2_with fail;clear am an ao aq aF;generalize B:ah av _=bd at*;obtain⟨C,i⟩:=aC B;clear B;have bj:=c.lt;have bk:=d.lt;have bG:=a.lt;have bH:=b.lt;revert o l b p pd e c d a f g m;refine au C ?_;intro o l b p pd e c d a f g m;revert n x;refine cR C ?_;intro n x
  replace H:=a.free;replace ag:=b.c2;clear C;have ar:=i.c2
  with_reducible refine(g5 (Wh.mk K o (k:=100000000) (by omega)) (by omega)).mono ?_
  rintro z bg ⟨rfl,u5⟩;revert i o l b p pd e c d a f g;refine au u5 ?_;intro i o l b p pd e c d a f g;revert m n x;refine bo u5 ?_;intro m n x
  replace H:=a.free;replace ag:=b.c2;replace ar:=i.c2;clear u5;rw[a9.out];go_wp2_with fail
  with_reducible refine(g9 _).mono ?_
  rintro z A ⟨bb,rfl,q1,u6⟩;revert i o l b p pd e c d a f g;refine au u6 ?_;intro i o l b p pd e c d a f g;revert m n x;refine bo u6 ?_;intro m n x
  replace H:=a.free;replace ag:=b.c2;replace ar:=i.c2;clear u6;obtain⟨bh,bi,rfl,q1,aB⟩:=q1;obtain⟨a3,bD,bq,rfl⟩:=q1.shape;obtain⟨a4,bF,br,rfl⟩:=aB.shape;go_wp2_with fail;exact gd aG.out.1 aG.out.2 rfl rfl rfl rfl ⟨_,_,rfl,q1,aB⟩ a trivial trivial trivial e (by omega)
 .have aG:Y ((!decide (r=0))=true):=G (by
   have z:r≠0:=by rw[<-az.out.1];exact(Rat.mkRat_ne_zero az.out.2).2 (λz=>ak (E.od.1 z))
   simp[z])
  have cd:((E.bU (E.iv K (E.val ax)):Int)==0)=false:=by
   rcases E.h3 (E.iv K (E.val ax))with⟨_,z⟩|⟨z,_⟩|⟨_,z⟩
   .rw[z];rfl
   .exact absurd (E.od.1 z) ak
   .rw[z];rfl
  have a6:Y (E.val (E.words (E.val aX*E.val ax))≠0):=G (by rw[E.bl];exact Nat.mul_ne_zero aL.out.2 ak);have aI:=E.yj (E.iv aE (E.val aV)) (t:=K) ak aL.out.2 az.out.2;rw[aL.out.1,az.out.1]at aI;have ba:=(E.Lz.iv (s:=aE) (E.cr p.ok)).mul (y:=(E.val aW:Int)) (E.cr l.ok);have bO:=E.g1 (E.cr pd.ok) (E.cr o.ok);have a7:=G aI;clear ak aI;have am:=c.d3;have an:=d.d3;have ao:=a.d3;have aq:=a.fa;have aF:=b.d2;go_wp2_with fail;clear am an ao aq aF;generalize B:ah av _=bd at*;obtain⟨C,i⟩:=aC B;clear B;have bj:=c.lt;have bk:=d.lt;have bG:=a.lt;have bH:=b.lt;revert o l b p pd e c d a f g m;refine au C ?_;intro o l b p pd e c d a f g m;revert n x;refine cR C ?_;intro n x
  replace H:=a.free;replace ag:=b.c2;clear C;have ar:=i.c2
  with_reducible refine(g5 (Wh.mk K o (k:=100000000) (by omega)) (by omega)).mono ?_
  rintro z bg ⟨rfl,u5⟩;revert i o l b p pd e c d a f g;refine au u5 ?_;intro i o l b p pd e c d a f g;revert m n x;refine bo u5 ?_;intro m n x
  replace H:=a.free;replace ag:=b.c2;replace ar:=i.c2;clear u5;go_wp2_with fail
  with_reducible refine(iW (Wh.mk aE p (k:=100000000) (by omega)) l (by omega) (by omega)).mono ?_
  rintro z A ⟨bb,rfl,up,u6⟩;revert i o l b p pd e c d a f g;refine au u6 ?_;intro i o l b p pd e c d a f g;revert m n x;refine bo u6 ?_;intro m n x
  replace H:=a.free;replace ag:=b.c2;replace ar:=i.c2;clear u6;generalize bu:E.iv aE (E.val aV)*(E.val aW:Int)=aw at*;clear bu;obtain⟨bW,rfl,up⟩:=up;obtain⟨aN,aY,aO,rfl⟩:=up.shape;have am:=c.d3;have an:=d.d3;have ao:=a.d3;have aq:=a.fa;have aF:=b.d2;have bI:=i.d2;go_wp2_with fail;clear am an ao aq aF bI;generalize B:ah A _=aH at*;obtain⟨C,F⟩:=aC B;clear B;have bZ:=c.lt;have b0:¬(w.heap.size=A.heap.size):=by omega
  have bX:¬(A.heap.size=w.heap.size):=by omega
  have b3:=d.lt;have b4:¬(w.heap.size+1=A.heap.size):=by omega
  have b1:¬(A.heap.size=w.heap.size+1):=by omega
  have cj:=a.lt;have ck:¬(w.heap.size+1+1=A.heap.size):=by omega
  have ch:¬(A.heap.size=w.heap.size+1+1):=by omega
  have cq:=b.lt;have cr:¬(ay.heap.size=A.heap.size):=by omega
  have cp:¬(A.heap.size=ay.heap.size):=by omega
  have cu:=i.lt;have cv:¬(av.heap.size=A.heap.size):=by omega
  have ct:¬(A.heap.size=av.heap.size):=by omega
  revert i o l b p pd c d a f g up;refine au C ?_;intro i o l b p pd c d a f g up;revert e m n x;refine bf C ?_;intro e m n x
  replace H:=a.free;replace ag:=b.c2;replace ar:=i.c2;clear C;have bJ:=F.c2;have aM:=F.free;have a8:Y (mkRat (E.iv (!(E.aB aw==K)) (E.val (E.words aw.natAbs))) (E.val (E.words (E.val aX*E.val ax)))=q/r):=G (by rw[E.bl,E.bl];exact a7.out);have al:Wh aH (af #[J (!(E.aB aw==K)),D aN aY aO]) (E.iv (!(E.aB aw==K)) (E.val (E.words aw.natAbs))) 100000000:=Wh.mk _ up (aQ ba (by omega));obtain⟨L,M,N⟩:=m;obtain⟨P,Q,R⟩:=n;have aD:=x;obtain⟨S,T⟩:=ag;obtain⟨X,Z⟩:=ar;obtain⟨aa,ab⟩:=bJ;clear S T X Z aa ab;revert o l b p pd c d a f g up al;refine au (V.refl aH).drew ?_;intro o l b p pd c d a f g up al;revert F i e L M N P Q R;refine bE (V.refl aH).drew ?_;intro F i e L M N P Q R
  have aD:=a.c3;have H:=a.free;obtain⟨S,T⟩:=b.c2;obtain⟨X,Z⟩:=i.c2;obtain⟨aa,ab⟩:=F.c2;replace aM:=F.free
  go_region_held3(λI=>V w I/\I.cell? ⟨w.heap.size,0,none⟩=U (J s)/\I.cell? ⟨w.heap.size,1,none⟩=U (D aZ bv.length bl)/\I.cell? ⟨w.heap.size,2,none⟩=U (D ai bz.length bs)/\I.cell? ⟨w.heap.size+1,0,none⟩=U (J t)/\I.cell? ⟨w.heap.size+1,1,none⟩=U (D a1 bx.length bm)/\I.cell? ⟨w.heap.size+1,2,none⟩=U (D a5 bA.length bt)/\I.cell? ⟨ay.heap.size,0,none⟩=U (J aE)/\I.cell? ⟨ay.heap.size,1,none⟩=U (D Ap bB bp)/\I.cell? ⟨av.heap.size,0,none⟩=U (J K)/\I.cell? ⟨av.heap.size,1,none⟩=U (D a2 no bn)/\I.cell? ⟨A.heap.size,0,none⟩=U (J (!(E.aB aw==K)))/\I.cell? ⟨A.heap.size,1,none⟩=U (D aN aY aO))
   (first|with_reducible exact⟨e,L,M,N,P,Q,R,S,T,X,Z,aa,ab⟩|with_reducible exact⟨(e.alloc_drew _),(aJ L),(aJ M),(aJ N),(aJ P),(aJ Q),(aJ R),(aJ S),(aJ T),(aJ X),(aJ Z),(aJ aa),(aJ ab)⟩|with_reducible exact⟨(e.dt _ _),(aK L),(aK M),(aK N),(aK P),(aK Q),(aK R),(aK S),(aK T),(aK X),(aK Z),(aK aa),(aK ab)⟩|((try simp only[<-World.setCell_drew]);first|with_reducible exact⟨(us (us (us e))),(cf (cf (cf L))),(cf (cf (cf M))),(cf (cf (cf N))),(cf (cf (cf P))),(cf (cf (cf Q))),(cf (cf (cf R))),(cf (cf (cf S))),(cf (cf (cf T))),(cf (cf (cf X))),(cf (cf (cf Z))),(cf (cf (cf aa))),(cf (cf (cf ab)))⟩)|go_keep)
   ((first
     |(go_at_call 72
       with_reducible refine(jj pd o (by omega) (by omega)).mono ?_
       rintro z bU ⟨bQ,rfl,aA,u8⟩;clear S T X Z aa ab;revert o l b p pd c d a f g up al;refine au u8 ?_;intro o l b p pd c d a f g up al;revert F i e L M N P Q R aD;refine bw u8 ?_;intro F i e L M N P Q R aD
       try(replace aA:=aA.up u8)
       try(replace q1:=q1.up u8)
       replace H:=a.free;obtain⟨S,T⟩:=b.c2;obtain⟨X,Z⟩:=i.c2;obtain⟨aa,ab⟩:=F.c2;replace aM:=F.free;clear u8)
     |(go_at_call 58
       with_reducible refine(jn al aA (by omega) (by omega) a6.out).mono ?_
       rintro z bV ⟨bR,rfl,q1,u9⟩;clear S T X Z aa ab;revert o l b p pd c d a f g up al;refine au u9 ?_;intro o l b p pd c d a f g up al;revert F i e L M N P Q R aD;refine bw u9 ?_;intro F i e L M N P Q R aD
       try(replace aA:=aA.up u9)
       try(replace q1:=q1.up u9)
       replace H:=a.free;obtain⟨S,T⟩:=b.c2;obtain⟨X,Z⟩:=i.c2;obtain⟨aa,ab⟩:=F.c2;replace aM:=F.free;clear u9;rw[a8.out]at q1;obtain⟨bh,bi,rfl,q1,aB⟩:=q1;obtain⟨a3,bD,bq,rfl⟩:=q1.shape;obtain⟨a4,bF,br,rfl⟩:=aB.shape)))
  all_goals
   go_wp2;exact gd rfl aG.out rfl rfl rfl rfl ⟨_,_,rfl,q1,aB⟩ a trivial trivial trivial e (by omega)
theorem oG (h:Wh w v z j)(b:Ws w u m)(Q:j<=100000000)(R:m.length<=100000000):aj ae 114 #[v,u] w (eK (mkRat z (E.val m)) (!decide (E.val m=0)) w):=by
 have d:=h;obtain⟨T,U,S,rfl,r,_⟩:=h;obtain⟨M,N,rfl⟩:=r.form;obtain⟨ai,P,rfl⟩:=b.form;clear r
 by_cases f:E.val m=0
 .have o:Y (decide (E.val m=0)=true):=G (decide_eq_true f);have n:Y (mkRat z (E.val m)=0/\(!decide (E.val m=0))=false):=G (by rw[f];simp);clear f;go_enter func114,ntmps114;go_wp2_with fail;generalize i:ah (ah w _) _=A at*;obtain⟨c,e,a⟩:=br i;clear i;replace d:=d.up c;replace b:=b.up c;have g:=e.c2;have l:=a.c3;have q:=a.free;go_wp2_with fail
  with_reducible refine(iS b (by omega)).mono ?_
  rintro p B ⟨rfl,rfl⟩;rw[o.out];go_wp2_with fail
  with_reducible refine(g9 _).mono ?_
  rintro p C ⟨y,rfl,q1,u2⟩;revert c e a d b g l;refine bS u2 ?_;intro c e a d b g l
  replace q:=a.free;clear u2;obtain⟨F,H,rfl,q1,k⟩:=q1;obtain⟨s,K,I,rfl⟩:=q1.shape;obtain⟨t,L,J,rfl⟩:=k.shape;go_wp2_with fail;exact gd n.out.1 n.out.2 rfl rfl rfl rfl ⟨_,_,rfl,q1,k⟩ a trivial trivial trivial c (by omega)
 .have o:Y (decide (E.val m=0)=false):=G (decide_eq_false f);have n:Y ((!decide (E.val m=0))=true):=G (by simp[f]);have x:=G f;clear f;go_enter func114,ntmps114;go_wp2_with fail;generalize i:ah (ah w _) _=A at*;obtain⟨c,e,a⟩:=br i;clear i;replace d:=d.up c;replace b:=b.up c;have g:=e.c2;have l:=a.c3;have q:=a.free;go_wp2_with fail
  with_reducible refine(iS b (by omega)).mono ?_
  rintro p B ⟨rfl,rfl⟩;rw[o.out];go_wp2_with fail
  with_reducible refine(jn d b (by omega) (by omega) x.out).mono ?_
  rintro p C ⟨y,rfl,q1,u2⟩;revert c e a d b g l;refine bS u2 ?_;intro c e a d b g l
  replace q:=a.free;clear u2;obtain⟨F,H,rfl,q1,k⟩:=q1;obtain⟨s,K,I,rfl⟩:=q1.shape;obtain⟨t,L,J,rfl⟩:=k.shape;go_wp2_with fail;exact gd rfl n.out rfl rfl rfl rfl ⟨_,_,rfl,q1,k⟩ a trivial trivial trivial c (by omega)
theorem dR {n:Int}(a: -9223372036854775808<=n/\n<=9223372036854775807):E.Lq (n:Rat) 2:=E.Lq.int (E.og (by omega)) (by omega)
theorem sb {n d:Int}(l: -9223372036854775808<=n/\n<=9223372036854775807)(k: -9223372036854775808<=d/\d<=9223372036854775807)(w:O):aj ae 47 #[H I n,H I d] w (eK ((n:Rat)/(d:Rat)) (!decide (d=0)) w):=by
 go_enter func47,ntmps47;go_wp2_with fail;generalize j:ah w _=t at*;obtain⟨b,a⟩:=aC j;clear j;have c:=a.c3;have g:=a.free;go_wp2_with fail
 with_reducible refine(fd l _).mono ?_
 rintro i u ⟨q,rfl,q1,u1⟩;revert b a c;refine bo u1 ?_;intro b a c;replace g:=a.free;clear u1;go_wp2_with fail
 with_reducible refine(fd k _).mono ?_
 rintro i v ⟨r,rfl,f,u2⟩;revert q1 b a c;refine bf u2 ?_;intro q1 b a c;replace g:=a.free;clear u2;go_wp2_with fail
 with_reducible refine(oF (q1.fr (dR l)) (f.fr (dR k)) (by omega) (by omega)).mono ?_
 rintro i x ⟨s,rfl,e,u3⟩;revert f q1 b a c;refine b8 u3 ?_;intro f q1 b a c;replace g:=a.free;clear u3;obtain⟨y,z,rfl,e,m⟩:=e;obtain⟨o,C,A,rfl⟩:=e.shape;obtain⟨p,D,B,rfl⟩:=m.shape;go_wp2_with fail;exact gd rfl rfl rfl rfl rfl rfl ⟨_,_,rfl,e,m⟩ a trivial trivial trivial b (by omega)
theorem ic (h:Fr w v q j)(l:Fr w u r k)(L:j<=20000000)(M:k<=20000000):aj ae 11 #[v,u] w λe x=>e=aw (J (decide (q=r)))/\V w x:=by
 have t:Y ((E.cI q r==0)=decide (q=r)):=G (by
  have:=E.yn q r;rw[Bool.eq_iff_iff]
  simpa using this)
 have a:=h;have b:=l;obtain⟨S,U,X,N,Q,rfl,n,p,_⟩:=h;obtain⟨T,Z,aa,P,R,rfl,o,s,_⟩:=l;obtain⟨y,F,rfl⟩:=n.form;obtain⟨ai,I,rfl⟩:=p.form;obtain⟨z,H,rfl⟩:=o.form;obtain⟨A,K,rfl⟩:=s.form;clear n p o s;go_enter func11,ntmps11;go_wp2_with fail;generalize m:ah (ah w _) _=B at*;obtain⟨c,d,f⟩:=br m;clear m;replace a:=a.up c;replace b:=b.up c;have g:=d.c3;have i:=f.c3;go_wp2_with fail
 with_reducible refine(f9 a b (by omega) (by omega)).mono ?_
 rintro e C ⟨rfl,u1⟩;revert c d f a b g i;revert u1;refine eR ?_;intro c d f a b g i;go_wp2;go_ret;exact⟨by rw[<-t.out];rfl,c⟩
theorem oH (b:Ws w u l)(c:Ws w d m)(z:l.length<=100000000)(A:m.length<=100000000):
 aj ae 146 #[af #[J s,u,d]] w (iV ((E.bD (E.val l)+E.bD (E.val m):Nat):Int) w):=by
 have x:=E.lN (E.cr b.ok);have y:=E.lN (E.cr c.ok);obtain⟨n,q,rfl⟩:=b.form;obtain⟨ai,d,rfl⟩:=c.form;go_enter func146,ntmps146;go_wp2_with fail;generalize k:ah w _=o at*;obtain⟨a,i⟩:=aC k;clear k;replace b:=b.up a;replace c:=c.up a;have p:=i.c3;have hw:IntKind.i64.wrap (((E.bD (E.val l):Nat):Int)+((E.bD (E.val m):Nat):Int))=((E.bD (E.val l):Nat):Int)+((E.bD (E.val m):Nat):Int):=IntWalk.i64_in _ (by omega);obtain⟨e,f,g⟩:=p;revert a i b c e f g;refine bS (V.refl o).drew ?_;intro a i b c e f g
 go_region_held3(λj=>V w j/\j.cell? ⟨w.heap.size,0,none⟩=U (J s)/\j.cell? ⟨w.heap.size,1,none⟩=U (D n l.length q)/\j.cell? ⟨w.heap.size,2,none⟩=U (D ai m.length d))
  (first|with_reducible exact⟨a,e,f,g⟩|with_reducible exact⟨(a.alloc_drew _),(aJ e),(aJ f),(aJ g)⟩|with_reducible exact⟨(a.dt _ _),(aK e),(aK f),(aK g)⟩|go_keep)
  ((first
    |(go_at_call 177
      with_reducible refine(rK b (by omega)).mono ?_
      rintro r t ⟨rfl,u1⟩;revert a i b c e f g;revert u1;refine eR ?_;intro a i b c e f g)
    |(go_at_call 177
      with_reducible refine(rK c (by omega)).mono ?_
      rintro r v ⟨rfl,u2⟩;revert a i b c e f g;revert u2;refine eR ?_;intro a i b c e f g)))
 all_goals
  go_wp2;go_ret;exact⟨by rw[Int.natCast_add];rfl,a⟩
theorem zz (h:Fr w v q k)(aA:k<=40000000):aj ae 113 #[v] w (g4 q.floor w):=by
 have d:=h;obtain⟨aP,aQ,aR,aG,aH,rfl,y,z,_,aB,aE,az⟩:=h;obtain⟨T,au,rfl⟩:=y.form;obtain⟨ai,ay,rfl⟩:=z.form;clear y z;go_enter func113,ntmps113;go_wp2_with fail;generalize i:ah (ah w _) _=ag at*;obtain⟨f,c,b⟩:=br i;clear i;replace d:=d.up f;have g:=c.c3;have j:=b.c2;have r:=b.free;go_wp2_with fail
 with_reducible refine(fP d (by omega)).mono ?_
 rintro J F ⟨A,Lp,aa,K,L,rfl,p,pd,t,aD,aF,u1⟩;obtain⟨Ap,aK,aw,rfl⟩:=p.shape;obtain⟨Z,aL,ax,rfl⟩:=pd.shape;revert f c b d g j;refine bO u1 ?_;intro f c b d g j;replace r:=b.free;clear u1;have C:Y (E.iv A (E.val K)/E.iv false (E.val L)=q.floor):=G (by rw[<-t.out.1,E.ym _ t.out.2];rfl);have s:=c.d3;have u:=b.d2;have x:=b.fa;go_wp2_with fail;clear s u x;generalize i:ah F _=ak at*;obtain⟨o,e⟩:=aC i;clear i;have ao:=c.lt;have aM:=b.lt;revert p pd f c b d g j;refine b9 o ?_;intro p pd f c b d g j;replace r:=b.free;clear o;have B:=e.c2
 with_reducible refine(zx (Wh.mk A p (k:=40000000) (by omega)) (Wh.mk false pd (k:=40000000) (by omega)) (by omega) (by omega) (by have:=t.out.2;rw[E.ht];omega)).mono ?_
 rintro J H ⟨ab,af,aW,rfl,a,n,u3⟩;revert e p pd f c b d g j;refine bE u3 ?_;intro e p pd f c b d g j;replace r:=b.free;replace B:=e.c2;clear u3;rw[C.out]at a;obtain⟨am,rfl,a⟩:=a;obtain⟨U,aI,av,rfl⟩:=a.shape;obtain⟨an,rfl,n⟩:=n;obtain⟨X,aJ,cb,rfl⟩:=n.shape;have s:=c.d3;have u:=b.d2;have x:=b.fa;have P:=e.d2;have I:=λl m=>(c.up (((V.refl _).alloc l).alloc m)).c3
 have M:=λl m=>(b.up (((V.refl _).alloc l).alloc m)).c2
 have N:=b.eE;have Q:=λl m=>(e.up (((V.refl _).alloc l).alloc m)).c2
 go_wp2_with fail;clear s u x P I M N Q;generalize i:ah (ah H _) _=al at*;obtain⟨o,R,S⟩:=br i;clear i;have aq:=c.lt;have aN:=b.lt;have aS:=e.lt;have ar:=c.lt;have aO:=b.lt;have aT:=e.lt;revert e p pd f c b d g j a n;refine bC o ?_;intro e p pd f c b d g j a n;replace r:=b.free;replace B:=e.c2;clear o;have aU:=R.c2;have aV:=S.c2;exact fB rfl rfl rfl ⟨_,rfl,a⟩ b trivial trivial f (by omega)
theorem zA (h:Fr w v q k)(af:k<=40000000):aj ae 235 #[v] w (dq (-q) w):=by
 have u:=h.lq.1;have c:=h;obtain⟨ax,ay,az,am,an,rfl,r,s,_,ak,al,ab⟩:=h;obtain⟨F,V,rfl⟩:=r.form;obtain⟨ai,aa,rfl⟩:=s.form;clear r s;go_enter func235,ntmps235;go_wp2_with fail;generalize f:ah (ah w _) _=L at*;obtain⟨d,b,a⟩:=br f;clear f;replace c:=c.up d;have i:=b.c3;have j:=a.c3;have o:=a.free;go_wp2_with fail
 with_reducible refine(dx c (by omega)).mono ?_
 rintro A n ⟨J,rfl,q1,u1⟩;revert d b a c i j;refine bO u1 ?_;intro d b a c i j;replace o:=a.free;clear u1;obtain⟨P,R,rfl,q1,g⟩:=q1;obtain⟨G,ao,X,rfl⟩:=q1.shape;obtain⟨H,aq,Y,rfl⟩:=g.shape;have y:=b.d3;have B:=a.d3;have C:=a.fa;go_wp2_with fail;clear y B C;generalize f:ah n _=M at*;obtain⟨t,e⟩:=aC f;clear f;have T:=b.lt;have U:¬(w.heap.size=n.heap.size):=by omega
 have S:¬(n.heap.size=w.heap.size):=by omega
 have av:=a.lt;have aw:¬(w.heap.size+1=n.heap.size):=by omega
 have au:¬(n.heap.size=w.heap.size+1):=by omega
 revert d b a c i j q1 g;refine b9 t ?_;intro d b a c i j q1 g;replace o:=a.free;clear t;have p:=e.c3;have z:=e.free
 with_reducible refine(r0 (k:=40000000) (Wh.mk (E.aB q.num) q1 (aQ u (by omega))) (by omega)).mono ?_
 rintro A x ⟨K,rfl,l,u3⟩;revert e d b a c i j q1 g;refine bE u3 ?_;intro e d b a c i j q1 g;replace o:=a.free;replace p:=e.c3;replace z:=e.free;clear u3;rw[E.bl,E.hZ]at l;obtain⟨Q,rfl,l⟩:=l;obtain⟨I,ar,Z,rfl⟩:=l.shape;go_wp2_with fail;generalize f:ag (ag x _ _) _ _=N at*;have m:=dp e f;clear f;revert c q1 g l;refine bf m.kw ?_;intro c q1 g l;replace b:=b.bs m;replace a:=a.bs m;replace e:=m.new;replace d:=d.bs m;clear m;replace i:=b.c3;replace j:=a.c3;replace o:=a.free;replace p:=e.c3;exact di rfl rfl rfl (Qw.mk (q:= -q) l g rfl rfl rfl) a trivial trivial trivial d (by omega)
theorem zB (h:Fr w v q k)(S:k<=40000000):aj ae 102 #[v] w (dq (E.dZ q) w):=by
 have b:=h;obtain⟨ag,ak,al,V,X,rfl,m,n,_,T,U,R⟩:=h;obtain⟨u,L,rfl⟩:=m.form;obtain⟨ai,P,rfl⟩:=n.form;clear m n;go_enter func102,ntmps102;go_wp2_with fail;generalize f:ah (ah w _) _=A at*;obtain⟨d,c,a⟩:=br f;clear f;replace b:=b.up d;have g:=c.c3;have j:=a.c3;have p:=a.free;go_wp2_with fail
 with_reducible refine(dx b (by omega)).mono ?_
 rintro Q e ⟨z,rfl,q1,u1⟩;revert d c a b g j;refine bO u1 ?_;intro d c a b g j;replace p:=a.free;clear u1;obtain⟨C,F,rfl,q1,i⟩:=q1;obtain⟨x,Y,M,rfl⟩:=q1.shape;obtain⟨y,Z,N,rfl⟩:=i.shape;have r:=c.d3;have s:=a.d3;have t:=a.fa;go_wp2_with fail;clear r s t;generalize f:ah e _=B at*;obtain⟨o,l⟩:=aC f;clear f;have H:=c.lt;have I:¬(w.heap.size=e.heap.size):=by omega
 have G:¬(e.heap.size=w.heap.size):=by omega
 have ab:=a.lt;have af:¬(w.heap.size+1=e.heap.size):=by omega
 have aa:¬(e.heap.size=w.heap.size+1):=by omega
 revert d c a b g j q1 i;refine b9 o ?_;intro d c a b g j q1 i;replace p:=a.free;clear o;have J:=l.c3;have K:=l.free;exact di rfl rfl rfl (Qw.mk (q:=E.dZ q) q1 i (by rw[E.rl,E.ya]) (by rw[E.rl,Int.natAbs_natCast]) (E.yk q)) a trivial trivial trivial d (by omega)
theorem mf {a:List Nat}{ti:Int}(n:Nat)(o:ti=n)(h:Ws w v a)(B:n<=8)(m:a.length<=1000000000):aj ae 249 #[v,H I ti] w (gK (E.words (E.val a^n)) w):=by
 subst o;have g:=G (E.oh (E.cr h.ok));have f:=G h;obtain⟨r,y,rfl⟩:=h.form;go_enter func249,ntmps249;go_wp2_with fail;refine(h7 (n:=1) 1 rfl (by omega) _).mono ?_;rintro i u ⟨s,rfl,p,u1⟩;go_wp2_with fail
 go_loopw[5,8] (λq c wr=> ∃k:Nat,c=H I k/\k<=n/\Ws wr q (E.words (E.val a^k))/\V w wr) (λ_ c _=>n-(aI c).toNat)
 case atStart=>exact⟨0,rfl,bn _,by rw[Nat.pow_zero];exact p,u1⟩
 case round=>
  obtain⟨k,rfl,z,d,b⟩:=hrel
  by_cases A:k<n
  .have j:=g.out k;have l:a.length*k<=8000000000:=aQ (Nat.mul_le_mul m (show k<=8 by omega)) (by omega);go_wp2_with fail;refine(jj d (f.out.up b) (by omega) (by omega)).mono ?_;rintro i x ⟨t,rfl,e,u2⟩;rw[E.bl,<-Nat.pow_succ]at e;clear j l;go_wp2
   go_roundw
   case rel=>exact⟨k+1,by go_num,by omega,e,b.trans u2⟩
   case measure=>simp[aI];omega
  .obtain rfl:k=n:=by omega
   go_wp2;go_ret;exact⟨_,rfl,d,b⟩
theorem zC {e:Int}(h:Fr w v q k)(a5:k<=10000000)(bC: -9223372036854775808<=e/\e<=9223372036854775807):aj ae 246 #[v,H I e] w (eK (E.gI q e) (E.fO q e) w):=by
 have bd:(E.words q.num.natAbs).length<=k:=h.lq.1;have bf:=h.lq.2
 by_cases Q:E.fO q e=true
 rotate_left
 .have P:E.fO q e=false:=by simpa using Q
  have M:Y (E.gI q e=0/\E.fO q e=false):=G ⟨by unfold E.gI;rw[P];rfl,P⟩;unfold E.fO at P;have P:=of_decide_eq_false P;clear Q;have d:=h;obtain⟨aZ,bz,bA,aS,aT,rfl,an,ao,_,bq,bt,bp⟩:=h;obtain⟨az,aM,rfl⟩:=an.form;obtain⟨ai,aO,rfl⟩:=ao.form;clear an ao
  by_cases c1:e< -8
  .clear P;go_enter func246,ntmps246;go_wp2_with fail;generalize L:ah (ah w _) _=aw at*;obtain⟨c,f,b⟩:=br L;clear L;replace d:=d.up c;have A:=f.c3;have B:=b.c3;have C:=b.free;skip;go_wp2_with fail
   with_reducible refine(g9 _).mono ?_
   rintro e S ⟨a1,rfl,q1,u1⟩;revert c f b d A B;refine bO u1 ?_;intro c f b d A B
   replace C:=b.free;clear u1;obtain⟨ax,ay,rfl,q1,i⟩:=q1;obtain⟨X,ag,ab,rfl⟩:=q1.shape;obtain⟨Z,ak,af,rfl⟩:=i.shape;go_wp2_with fail;exact gd M.out.1 M.out.2 rfl rfl rfl rfl ⟨_,_,rfl,q1,i⟩ b trivial trivial trivial c (by omega)
  .by_cases c2:8<e
   .clear P;go_enter func246,ntmps246;go_wp2_with fail;generalize L:ah (ah w _) _=aw at*;obtain⟨c,f,b⟩:=br L;clear L;replace d:=d.up c;have A:=f.c3;have B:=b.c3;have C:=b.free;skip;go_wp2_with fail
    with_reducible refine(g9 _).mono ?_
    rintro e S ⟨a1,rfl,q1,u1⟩;revert c f b d A B;refine bO u1 ?_;intro c f b d A B
    replace C:=b.free;clear u1;obtain⟨ax,ay,rfl,q1,i⟩:=q1;obtain⟨X,ag,ab,rfl⟩:=q1.shape;obtain⟨Z,ak,af,rfl⟩:=i.shape;go_wp2_with fail;exact gd M.out.1 M.out.2 rfl rfl rfl rfl ⟨_,_,rfl,q1,i⟩ b trivial trivial trivial c (by omega)
   .have c3:e<0:=by
     rcases Int.lt_or_le e 0 with h|h
     .exact h
     .exact absurd ⟨by omega,by omega,λN=>by omega⟩ P
    have a8:Y (E.bU q.num=0):=G (by
     have:q=0:=by
      rcases Classical.em (q=0)with h|h
      .exact h
      .exact absurd ⟨by omega,by omega,λN=>h N.2⟩ P
     rw[this];rfl)
    clear P;go_enter func246,ntmps246;go_wp2_with fail;generalize L:ah (ah w _) _=aw at*;obtain⟨c,f,b⟩:=br L;clear L;replace d:=d.up c;have A:=f.c3;have B:=b.c3;have C:=b.free;go_wp2_with fail
    with_reducible refine(fQ d (by omega)).mono ?_
    rintro e S ⟨rfl,u1⟩;revert c f b d A B;refine bO u1 ?_;intro c f b d A B
    replace C:=b.free;clear u1;rw[a8.out];go_wp2_with fail
    with_reducible refine(g9 _).mono ?_
    rintro e T ⟨bg,rfl,q1,u2⟩;revert c f b d A B;refine bO u2 ?_;intro c f b d A B
    replace C:=b.free;clear u2;obtain⟨ax,ay,rfl,q1,i⟩:=q1;obtain⟨X,ag,ab,rfl⟩:=q1.shape;obtain⟨Z,ak,af,rfl⟩:=i.shape;go_wp2_with fail;exact gd M.out.1 M.out.2 rfl rfl rfl rfl ⟨_,_,rfl,q1,i⟩ b trivial trivial trivial c (by omega)
 have M:Y (E.gI q e=q^e/\E.fO q e=true):=G ⟨by unfold E.gI;rw[Q];rfl,Q⟩;unfold E.fO at Q;have Q:=of_decide_eq_true Q;obtain⟨bE,bF,aV⟩:=Q;have av:=G (E.oh bd);have ar:=G (E.oh bf);obtain⟨neg,aa⟩:∃am,Y (E.aB q.num=am):=⟨_,G rfl⟩;have d:=h;obtain⟨aZ,bz,bA,aS,aT,rfl,an,ao,_,bq,bt,bp⟩:=h;obtain⟨az,aM,rfl⟩:=an.form;obtain⟨ai,aO,rfl⟩:=ao.form;clear an ao;rcases Int.lt_or_le e 0 with bs|a4
 .obtain⟨g,bu⟩:=Int.eq_ofNat_of_zero_le (a:= -e) (by omega);obtain rfl:e= -(g:Int):=by omega
  have aP:g<=8:=by omega
  have aR:q≠0:=λN=>aV ⟨bs,N⟩
  have aB:Y (((g:Nat):Int)=if((g:Nat):Int)> -(g:Int)then((g:Nat):Int)else-(g:Int)):=G (by rw[if_pos (by omega)]);have R:=G (E.yq aR g);have a9:=av.out g;have ba:=ar.out g
  have bD:((E.bU q.num:Int)==0)=false:=by
   rcases E.h3 q.num with⟨_,e⟩|⟨e,_⟩|⟨_,e⟩
   .rw[e];rfl
   .exact absurd (Rat.num_eq_zero.1 e) aR
   .rw[e];rfl
  clear bu aR aV Q;clear av ar;have bb:k*g<=80000000:=aQ (Nat.mul_le_mul a5 aP) (by omega);obtain⟨aW,al⟩:∃am,Y (decide (g%2=1)=am):=⟨_,G rfl⟩;have aF:Y ((((g:Nat):Int)%2==1)=aW):=G (by rw[<-al.out,Bool.eq_iff_iff];simp;omega);have aD:Y (neg=false->(q^(-(g:Int))).num=E.iv false (q.den^g)):=G (λN=>by rw[R.out.1,aa.out,N];rfl);have aE:Y (neg=true->(q^(-(g:Int))).num=E.iv (((g:Nat):Int)%2==1) (q.den^g)):=G (λN=>by rw[R.out.1,aa.out,N,al.out,aF.out];rfl);go_enter func246,ntmps246;go_wp2_with fail;generalize L:ah (ah w _) _=aw at*;obtain⟨c,f,b⟩:=br L;clear L;replace d:=d.up c;have A:=f.c3;have B:=b.c3;have C:=b.free;go_wp2_with fail
  with_reducible refine(fQ d (by omega)).mono ?_
  rintro e S ⟨rfl,u1⟩;revert c f b d A B;refine bO u1 ?_;intro c f b d A B
  replace C:=b.free;clear u1;go_wp2_with fail
  with_reducible refine(dx d (by omega)).mono ?_
  rintro e T ⟨bg,rfl,q1,u2⟩;revert c f b d A B;refine bO u2 ?_;intro c f b d A B
  replace C:=b.free;clear u2;obtain⟨ax,ay,rfl,q1,i⟩:=q1;obtain⟨X,ag,ab,rfl⟩:=q1.shape;obtain⟨Z,ak,af,rfl⟩:=i.shape;rw[aa.out];have aI:=f.d3;have aX:=b.d3;have aY:=b.fa;go_wp2_with(with_reducible show bG _ _ _ _ _ _;refine h9 (o:=⟨U 31,_,_,_,_,_⟩) rfl _ _ _ _ rfl rfl rfl aB.out ?_);clear aI aX aY;generalize L:ah T _=aG at*;obtain⟨aq,j⟩:=aC L;clear L;have bl:=f.lt;have bx:=b.lt;revert c f b d A B q1 i;refine b9 aq ?_;intro c f b d A B q1 i
  replace C:=b.free;clear aq;have aL:=j.c3;obtain⟨l,m,n⟩:=A;obtain⟨t,u,x⟩:=B;obtain⟨p,r,s⟩:=aL;clear p r s;revert j c f b d q1 i l m n t u;refine au (V.refl aG).drew ?_;intro j c f b d q1 i l m n t u;revert x;refine cj (V.refl aG).drew ?_;intro x
  replace C:=b.free;obtain⟨p,r,s⟩:=j.c3
  go_region_held3(λK=>V w K/\K.cell? ⟨w.heap.size,0,none⟩=U (J aZ)/\K.cell? ⟨w.heap.size,1,none⟩=U (D az aS.length aM)/\K.cell? ⟨w.heap.size,2,none⟩=U (D ai aT.length aO)/\K.cell? ⟨w.heap.size+1,0,none⟩=U (J false)/\K.cell? ⟨w.heap.size+1,1,none⟩=U (D none 0 0)/\K.cell? ⟨w.heap.size+1,2,none⟩=U (D none 0 0)/\K.cell? ⟨T.heap.size,0,none⟩=U (J neg)/\K.cell? ⟨T.heap.size,1,none⟩=U (D X ag ab)/\K.cell? ⟨T.heap.size,2,none⟩=U (D Z ak af))
   (first|with_reducible exact⟨c,l,m,n,t,u,x,p,r,s⟩|with_reducible exact⟨(c.alloc_drew _),(aJ l),(aJ m),(aJ n),(aJ t),(aJ u),(aJ x),(aJ p),(aJ r),(aJ s)⟩|with_reducible exact⟨(c.dt _ _),(aK l),(aK m),(aK n),(aK t),(aK u),(aK x),(aK p),(aK r),(aK s)⟩|go_keep)
   ((first
     |(go_at_call 249
       with_reducible refine(mf g rfl q1 (by omega) (by omega)).mono ?_
       rintro e bj ⟨bh,rfl,y,u4⟩;clear p r s;revert j c f b d q1 i l m n t u;refine au u4 ?_;intro j c f b d q1 i l m n t u;revert x;refine cj u4 ?_;intro x
       try(replace y:=y.up u4)
       try(replace z:=z.up u4)
       replace C:=b.free;obtain⟨p,r,s⟩:=j.c3;clear u4;rw[E.bl]at y;obtain⟨a6,bv,bm,rfl⟩:=y.shape)
     |(go_at_call 249
       with_reducible refine(mf g rfl i (by omega) (by omega)).mono ?_
       rintro e a3 ⟨a2,rfl,z,u5⟩;clear p r s;revert j c f b d q1 i l m n t u;refine au u5 ?_;intro j c f b d q1 i l m n t u;revert x;refine cj u5 ?_;intro x
       try(replace y:=y.up u5)
       try(replace z:=z.up u5)
       replace C:=b.free;obtain⟨p,r,s⟩:=j.c3;clear u5;rw[E.bl]at z;obtain⟨a7,bw,bn,rfl⟩:=z.shape)))
  cases neg
  .skip;go_wp2_with fail
   with_reducible refine(ke (k:=100000000) (Wh.mk false z (by omega)) (by omega)).mono ?_
   rintro e bk ⟨bi,rfl,F,u6⟩;clear p r s;revert c f b d q1 i l m n y z j;refine au u6 ?_;intro c f b d q1 i l m n y z j;revert t u x;refine bo u6 ?_;intro t u x
   replace C:=b.free;obtain⟨p,r,s⟩:=j.c3;clear u6;rw[E.bl,<-aD.out (by trivial)]at F;obtain⟨aH,rfl,F⟩:=F;obtain⟨aA,aU,aN,rfl⟩:=F.shape;go_wp2_with fail;exact gd M.out.1 M.out.2 rfl rfl rfl rfl (Qw.mk (q:=q^(-(g:Int))) F y rfl rfl R.out.2) b trivial trivial trivial c (by omega)
  .skip;go_wp2_with fail
   with_reducible refine(ke (k:=100000000) (Wh.mk (((g:Nat):Int)%2==1) z (by omega)) (by omega)).mono ?_
   rintro e bk ⟨bi,rfl,F,u6⟩;clear p r s;revert c f b d q1 i l m n y z j;refine au u6 ?_;intro c f b d q1 i l m n y z j;revert t u x;refine bo u6 ?_;intro t u x
   replace C:=b.free;obtain⟨p,r,s⟩:=j.c3;clear u6;rw[E.bl,<-aE.out (by trivial)]at F;obtain⟨aH,rfl,F⟩:=F;obtain⟨aA,aU,aN,rfl⟩:=F.shape;go_wp2_with fail;exact gd M.out.1 M.out.2 rfl rfl rfl rfl (Qw.mk (q:=q^(-(g:Int))) F y rfl rfl R.out.2) b trivial trivial trivial c (by omega)
 .obtain⟨g,rfl⟩:=Int.eq_ofNat_of_zero_le a4;have aP:g<=8:=by omega
  have aB:Y (((g:Nat):Int)=if-((g:Nat):Int)>(g:Int)then-((g:Nat):Int)else(g:Int)):=G (by rw[if_neg (by omega)]);have R:=G (E.yo q g);have a9:=av.out g;have ba:=ar.out g;clear a4 aV Q;clear av ar;have bb:k*g<=80000000:=aQ (Nat.mul_le_mul a5 aP) (by omega);obtain⟨aW,al⟩:∃am,Y (decide (g%2=1)=am):=⟨_,G rfl⟩;have aF:Y ((((g:Nat):Int)%2==1)=aW):=G (by rw[<-al.out,Bool.eq_iff_iff];simp;omega);have aD:Y (neg=false->(q^(g:Int)).num=E.iv false (q.num.natAbs^g)):=G (λN=>by rw[R.out.1,aa.out,N];rfl);have aE:Y (neg=true->(q^(g:Int)).num=E.iv (((g:Nat):Int)%2==1) (q.num.natAbs^g)):=G (λN=>by rw[R.out.1,aa.out,N,al.out,aF.out];rfl);go_enter func246,ntmps246;go_wp2_with fail;generalize L:ah (ah w _) _=aw at*;obtain⟨c,f,b⟩:=br L;clear L;replace d:=d.up c;have A:=f.c3;have B:=b.c3;have C:=b.free;skip;go_wp2_with fail
  with_reducible refine(dx d (by omega)).mono ?_
  rintro e S ⟨a1,rfl,q1,u1⟩;revert c f b d A B;refine bO u1 ?_;intro c f b d A B
  replace C:=b.free;clear u1;obtain⟨ax,ay,rfl,q1,i⟩:=q1;obtain⟨X,ag,ab,rfl⟩:=q1.shape;obtain⟨Z,ak,af,rfl⟩:=i.shape;rw[aa.out];have aI:=f.d3;have aX:=b.d3;have aY:=b.fa;go_wp2_with(with_reducible show bG _ _ _ _ _ _;refine h9 (o:=⟨U 31,_,_,_,_,_⟩) rfl _ _ _ _ rfl rfl rfl aB.out ?_);clear aI aX aY;generalize L:ah S _=T at*;obtain⟨aq,j⟩:=aC L;clear L;have bl:=f.lt;have bx:=b.lt;revert c f b d A B q1 i;refine b9 aq ?_;intro c f b d A B q1 i
  replace C:=b.free;clear aq;have aL:=j.c3;obtain⟨l,m,n⟩:=A;obtain⟨t,u,x⟩:=B;obtain⟨p,r,s⟩:=aL;clear p r s;revert j c f b d q1 i l m n t u;refine au (V.refl T).drew ?_;intro j c f b d q1 i l m n t u;revert x;refine cj (V.refl T).drew ?_;intro x
  replace C:=b.free;obtain⟨p,r,s⟩:=j.c3
  go_region_held3(λK=>V w K/\K.cell? ⟨w.heap.size,0,none⟩=U (J aZ)/\K.cell? ⟨w.heap.size,1,none⟩=U (D az aS.length aM)/\K.cell? ⟨w.heap.size,2,none⟩=U (D ai aT.length aO)/\K.cell? ⟨w.heap.size+1,0,none⟩=U (J false)/\K.cell? ⟨w.heap.size+1,1,none⟩=U (D none 0 0)/\K.cell? ⟨w.heap.size+1,2,none⟩=U (D none 0 0)/\K.cell? ⟨S.heap.size,0,none⟩=U (J neg)/\K.cell? ⟨S.heap.size,1,none⟩=U (D X ag ab)/\K.cell? ⟨S.heap.size,2,none⟩=U (D Z ak af))
   (first|with_reducible exact⟨c,l,m,n,t,u,x,p,r,s⟩|with_reducible exact⟨(c.alloc_drew _),(aJ l),(aJ m),(aJ n),(aJ t),(aJ u),(aJ x),(aJ p),(aJ r),(aJ s)⟩|with_reducible exact⟨(c.dt _ _),(aK l),(aK m),(aK n),(aK t),(aK u),(aK x),(aK p),(aK r),(aK s)⟩|go_keep)
   ((first
     |(go_at_call 249
       with_reducible refine(mf g rfl q1 (by omega) (by omega)).mono ?_
       rintro e aG ⟨bB,rfl,y,u3⟩;clear p r s;revert j c f b d q1 i l m n t u;refine au u3 ?_;intro j c f b d q1 i l m n t u;revert x;refine cj u3 ?_;intro x
       try(replace y:=y.up u3)
       try(replace z:=z.up u3)
       replace C:=b.free;obtain⟨p,r,s⟩:=j.c3;clear u3;rw[E.bl]at y;obtain⟨a6,bv,bm,rfl⟩:=y.shape)
     |(go_at_call 249
       with_reducible refine(mf g rfl i (by omega) (by omega)).mono ?_
       rintro e bj ⟨bh,rfl,z,u4⟩;clear p r s;revert j c f b d q1 i l m n t u;refine au u4 ?_;intro j c f b d q1 i l m n t u;revert x;refine cj u4 ?_;intro x
       try(replace y:=y.up u4)
       try(replace z:=z.up u4)
       replace C:=b.free;obtain⟨p,r,s⟩:=j.c3;clear u4;rw[E.bl]at z;obtain⟨a7,bw,bn,rfl⟩:=z.shape)))
  cases neg
  .skip;go_wp2_with fail
   with_reducible refine(ke (k:=100000000) (Wh.mk false y (by omega)) (by omega)).mono ?_
   rintro e a3 ⟨a2,rfl,F,u5⟩;clear p r s;revert c f b d q1 i l m n y z j;refine au u5 ?_;intro c f b d q1 i l m n y z j;revert t u x;refine bo u5 ?_;intro t u x
   replace C:=b.free;obtain⟨p,r,s⟩:=j.c3;clear u5;rw[E.bl,<-aD.out (by trivial)]at F;obtain⟨aH,rfl,F⟩:=F;obtain⟨aA,aU,aN,rfl⟩:=F.shape;go_wp2_with fail;exact gd M.out.1 M.out.2 rfl rfl rfl rfl (Qw.mk (q:=q^(g:Int)) F z rfl rfl R.out.2) b trivial trivial trivial c (by omega)
  .skip;go_wp2_with fail
   with_reducible refine(ke (k:=100000000) (Wh.mk (((g:Nat):Int)%2==1) y (by omega)) (by omega)).mono ?_
   rintro e a3 ⟨a2,rfl,F,u5⟩;clear p r s;revert c f b d q1 i l m n y z j;refine au u5 ?_;intro c f b d q1 i l m n y z j;revert t u x;refine bo u5 ?_;intro t u x
   replace C:=b.free;obtain⟨p,r,s⟩:=j.c3;clear u5;rw[E.bl,<-aE.out (by trivial)]at F;obtain⟨aH,rfl,F⟩:=F;obtain⟨aA,aU,aN,rfl⟩:=F.shape;go_wp2_with fail;exact gd M.out.1 M.out.2 rfl rfl rfl rfl (Qw.mk (q:=q^(g:Int)) F z rfl rfl R.out.2) b trivial trivial trivial c (by omega)
structure F3 where
 s:Bool
 u:W
 d:W
def F3.agg (x:F3):W:=af #[J x.s,x.u,x.d]
def F3.ok (x:F3):Prop:=(∃a n c,x.u=D a n c)/\ ∃a n c,x.d=D a n c
def F3.zero:F3:=⟨false,D none 0 0,D none 0 0⟩
theorem F3.qB:F3.zero.ok:=⟨⟨_,_,_,rfl⟩,⟨_,_,_,rfl⟩⟩
def aS:List F3->List W
 |[]=>[]
 |x::f=>J x.s::x.u::x.d::aS f
theorem fe:∀l:List F3,(aS l).length=l.length*3
 |[]=>by simp[aS]
 |x::l=>by simp only[aS,List.length_cons,fe l];omega
theorem hc:∀l m:List F3,aS (l++m)=aS l++aS m
 |[],m=>rfl
 |x::l,m=>by simp only[List.cons_append,aS,hc l m]
theorem mg:∀(l:List F3) (j:Nat) (x:F3),l[j]? =U x->(aS l)[j*3]? =U (J x.s)/\(aS l)[j*3+1]? =U x.u/\(aS l)[j*3+2]? =U x.d
 |[],j,x,f=>by simp at f
 |y::l,0,x,f=>by simp at f;subst f;simp[aS]
 |y::l,j+1,x,f=>by
  have:=mg l j x (by simpa using f);have a:(j+1)*3=j*3+1+1+1:=by omega
  rw[a];simp only[aS,List.getElem?_cons_succ];exact this
theorem se:∀(l:List F3) (j:Nat) (x:F3),j<l.length->aS (l.set j x)=(((aS l).set (j*3) (J x.s)).set (j*3+1) x.u).set (j*3+2) x.d
 |[],j,x,f=>by simp at f
 |y::l,0,x,f=>by simp[aS]
 |y::l,j+1,x,f=>by
  have:=se l j x (by simpa using f);have a:(j+1)*3=j*3+1+1+1:=by omega
  rw[a];simp only[List.set_cons_succ,aS,this]
theorem sf {l:List F3}(h:∀x∈l,x.ok){u:W}(a:u∈aS l):dA u/\u.oneCell'=true:=by
 induction l with
 |nil=>simp[aS]at a
 |cons f l ih=>
  obtain⟨⟨e,k,g,b⟩,⟨B,j,i,c⟩⟩:=h f (by simp);simp only[aS,List.mem_cons]at a;rcases a with rfl|rfl|rfl|a
  .exact⟨trivial,rfl⟩
  .rw[b];exact⟨trivial,rfl⟩
  .rw[c];exact⟨trivial,rfl⟩
  .exact ih (λx d=>h x (by simp[d])) a
theorem zD (l:List F3)(n:Nat):aS (l.take n)=(aS l).take (n*3):=by
 by_cases b:n<=l.length
 .have a:aS l=aS (l.take n)++aS (l.drop n):=by rw[<-hc,List.take_append_drop]
  rw[a,List.take_left' (by rw[fe,List.length_take];omega)]
 .rw[List.take_of_length_le (by omega),List.take_of_length_le (by rw[fe];omega)]
theorem zE (l:List F3)(n:Nat):aS (l.drop n)=(aS l).drop (n*3):=by
 by_cases b:n<=l.length
 .have a:aS l=aS (l.take n)++aS (l.drop n):=by rw[<-hc,List.take_append_drop]
  rw[a,List.drop_left' (by rw[fe,List.length_take];omega)]
 .rw[List.drop_of_length_le (by omega),List.drop_of_length_le (by rw[fe];omega)];rfl
theorem mh:∀k:Nat,(Builtin.zeroCells #[J false,D none 0 0,D none 0 0] k).toList=aS (bA k F3.zero)
 |0=>by simp[Builtin.zeroCells,aS]
 |k+1=>by
  have ih:=mh k;have a:(k+1)*3=k*3+1+1+1:=by omega
  have b:(k*3)%3=0:=by omega
  have c:(k*3+1)%3=1:=by omega
  have d:(k*3+1+1)%3=2:=by omega
  rw[List.replicate_succ',hc,<-ih];simp[Builtin.zeroCells,a,Array.range_succ,b,c,d,aS,F3.zero]
theorem zF (k:Nat):(madeCells #[J false,D none 0 0,D none 0 0] (k*3)).toList=aS (bA k F3.zero):=mh k
variable {α:Type}
def Al (R:F3->α->Prop)(xs:List F3)(qs:List α):Prop:=xs.length=qs.length/\ ∀(a:Nat) b q,xs[a]? =U b->qs[a]? =U q->R b q
theorem Al.nil (R:F3->α->Prop):Al R [] []:=⟨rfl,λj x q h _=>by simp at h⟩
theorem Al.imp {R S:F3->α->Prop}{xs:List F3}{qs:List α}(h:Al R xs qs)(f:∀x q,R x q->S x q):Al S xs qs:=⟨h.1,λj x q h1 h2=>f x q (h.2 j x q h1 h2)⟩
theorem Al.append {R:F3->α->Prop}{xs ys:List F3}{qs rs:List α}(h:Al R xs qs)(k:Al R ys rs):Al R (xs++ys) (qs++rs):=by
 refine⟨by simp[h.1,k.1],λj x q h1 h2=> ?_⟩
 by_cases a:j<xs.length
 .rw[List.getElem?_append_left a]at h1;rw[List.getElem?_append_left (by rw[<-h.1];exact a)]at h2;exact h.2 j x q h1 h2
 .rw[List.getElem?_append_right (by omega)]at h1;rw[List.getElem?_append_right (by rw[<-h.1];omega),<-h.1]at h2;exact k.2 _ x q h1 h2
theorem Al.one {R:F3->α->Prop}{x:F3}{q:α}(h:R x q):Al R [x] [q]:=⟨rfl,λj y r h1 h2=>by
 match j with
 |0=>simp at h1 h2;subst h1 h2;exact h
 |j+1=>simp at h1⟩
theorem Al.take {R:F3->α->Prop}{xs:List F3}{qs:List α}(h:Al R xs qs)(n:Nat):Al R (xs.take n) (qs.take n):=by
 refine⟨by simp[h.1],λj x q h1 h2=> ?_⟩;rw[List.getElem?_take]at h1 h2
 split at h1
 .rename_i a;rw[if_pos a]at h2;exact h.2 j x q h1 h2
 .cases h1
theorem Al.set {R:F3->α->Prop}{xs:List F3}{qs:List α}(h:Al R xs qs)(n:Nat){x:F3}{q:α}(b:R x q):Al R (xs.set n x) (qs.set n q):=by
 refine⟨by simp[h.1],λj y r h1 h2=> ?_⟩;rw[List.getElem?_set]at h1 h2
 split at h1
 .rename_i a
  subst a;rw[if_pos rfl]at h2
  split at h1
  .split at h2
   .cases h1;cases h2;exact b
   .cases h2
  .cases h1
 .rename_i a
  rw[if_neg a]at h2;exact h.2 j y r h1 h2
theorem Al.at_ {R:F3->α->Prop}{xs:List F3}{qs:List α}(h:Al R xs qs)(a:k<qs.length):∃x,xs[k]? =U x/\R x qs[k]:=by
 have b:k<xs.length:=by rw[h.1];exact a
 exact⟨xs[k],aT b,h.2 k _ _ (aT b) (aT a)⟩
theorem Al.replicate {R:F3->α->Prop}{x:F3}{q:α}(h:R x q)(n:Nat):Al R (bA n x) (bA n q):=
 ⟨by simp,λj y r h1 h2=>by
   rw[List.getElem?_replicate]at h1 h2
   split at h1
   .rename_i a;rw[if_pos a]at h2;cases h1;cases h2;exact h
   .cases h1⟩
structure Kp {α:Type} (P:O->W->α->Prop):Prop where
 kw:∀{w ab:O} {v:W} {q:α},P w v q->Kw w ab->P ab v q
 form:∀{w:O} {v:W} {q:α},P w v q-> ∃x:F3,v=x.agg/\x.ok
def cX (k:Nat)(w:O)(v:W)(q:Rat):Prop:=Fr w v q k
theorem bF (k:Nat):Kp (cX k) where
 kw:=λa c=>Fr.kw a c
 form:=λa=>by
  obtain⟨f,g,b,i,j,rfl,d,e,_⟩:=a;exact⟨⟨f,g,b⟩,rfl,d.shape,e.shape⟩
theorem zG:Kp Qw where
 kw:=λa c=>Qw.kw a c
 form:=λa=>by
  obtain⟨f,b,rfl,d,e⟩:=a;exact⟨⟨_,f,b⟩,rfl,d.shape,e.shape⟩
def Qk (k:Nat)(w:O)(v:W)(q:Rat):Prop:=Qw w v q/\E.Lq q k
theorem aR (k:Nat):Kp (Qk k) where
 kw:=λa b=>⟨a.1.kw b,a.2⟩
 form:=λa=>zG.form a.1
theorem F3.nI {x y:F3}(h:x.agg=y.agg):x=y:=by
 cases x;cases y
 simp[F3.agg]at h;obtain⟨rfl,rfl,rfl⟩:=h;rfl
def Sq (P:O->W->α->Prop)(w:O)(v:W)(qs:List α):Prop:=
 ∃b a c,v=D b qs.length a/\qs.length<=a/\a<=cm/\Al (λd q=>P w d.agg q) c qs/\b2 w b (aS c)
theorem Sq.up {P:O->W->α->Prop}(i:Kp P){w ab:O}{v:W}{qs:List α}(h:Sq P w v qs)(a:V w ab):Sq P ab v qs:=by
 obtain⟨b,c,j,h1,h2,d,e,f⟩:=h;exact⟨b,c,j,h1,h2,d,e.imp λx q g=>i.kw g a.kw,f.up a⟩
theorem Sq.imp {P Q:O->W->α->Prop}{w:O}{v:W}{qs:List α}(h:Sq P w v qs)(f:∀{v q},P w v q->Q w v q):Sq Q w v qs:=by
 obtain⟨a,c,i,h1,h2,b,d,e⟩:=h;exact⟨a,c,i,h1,h2,b,d.imp λx q g=>f g,e⟩
theorem Sq.form {P:O->W->α->Prop}{qs:List α}(h:Sq P w v qs):∃a c,v=D a qs.length c:=by obtain⟨a,c,b,h1,_⟩:=h;exact⟨a,c,h1⟩
theorem Sq.nil (P:O->W->α->Prop)(w:O):Sq P w (D none 0 0) []:=⟨none,0,[],rfl,by simp,by simp,Al.nil _,λh=>absurd h (by simp[aS])⟩
theorem Sq.at_ {P:O->W->α->Prop}(z:Kp P){w:O}{A:Option am}{n c:Nat}{qs:List α}(h:Sq P w (D A n c) qs){k:Nat}(t:k<qs.length):
 ∃b o s B m f ai d a,A=U ⟨b,o,none⟩/\b<w.heap.size/\w.cell? ⟨b,o+k*3,none⟩=U (J s)/\w.cell? ⟨b,o+k*3+1,none⟩=U (D B m f)/\w.cell? ⟨b,o+k*3+2,none⟩=U (D ai d a)/\P w (af #[J s,D B m f,D ai d a]) qs[k]:=by
 obtain⟨E,F,q,h1,h2,G,l,r⟩:=h;cases h1;obtain⟨x,v,p⟩:=l.at_ t;obtain⟨q1,q2,C⟩:=mg q k x v;obtain⟨y,e,⟨B,m,f,i⟩,⟨ai,d,a,j⟩⟩:=z.form p;have e:=F3.nI e;subst e;have u:0<(aS q).length:=by rw[fe,l.1];omega
 obtain⟨b,o,rfl,hb,g⟩:=r u;have c2:=g _ _ q2;have c3:=g _ _ C;rw[i]at c2;rw[j]at c3;refine⟨b,o,x.s,B,m,f,ai,d,a,rfl,hb,g _ _ q1,c2,c3,?_⟩;rw[<-i,<-j];exact p
def dL (T:an)(base:Nat)(w:O)(v:W)(xs:List F3):Prop:=
 (∀c∈xs,c.ok)/\((v=D none 0 0/\xs=[])\/ ∃b a,v=D (U ⟨b,0,none⟩) xs.length (xs.length+a.length)/\base<=b/\Bx T w b (aS (xs++a))/\(∀d∈a,d.ok)/\xs.length+a.length<=cm)
theorem dL.nil (T:an)(base:Nat)(w:O):dL T base w (D none 0 0) []:=⟨by simp,.inl ⟨rfl,rfl⟩⟩
theorem dL.own {xs:List F3}(h:dL T base w v xs):w.ownsRow base T 3 v xs.length (aS xs):=by
 refine⟨fe xs,?_⟩;rcases h.2 with⟨rfl,rfl⟩|⟨g,ys,rfl,hb,b,c,a⟩
 .exact .inl ⟨rfl,rfl⟩
 .refine .inr ⟨g,_,_,rfl,hb,b,by omega,a,?_,?_⟩
  .simp[fe]
  .rw[hc];simp only[List.take_left' (fe xs)]
theorem dL.kept {xs:List F3}{row:Option Nat}(h:dL T base w v xs)(b:w.grownBy ab row)(d:v.ownBlock=none\/v.ownBlock≠row):dL T base ab v xs:=by
 refine⟨h.1,?_⟩;rcases h.2 with h2|⟨g,ys,rfl,hb,a,e,c⟩
 .exact .inl h2
 .exact .inr ⟨g,ys,rfl,hb,(b.block g a.lt (by simpa[Value.ownBlock]using d)).trans a,e,c⟩
theorem dL.up {xs:List F3}(h:dL T base w v xs)(a:V w ab):dL T base ab v xs:=h.kept (row:=none) (gN a none) (by cases v.ownBlock<;>simp)
instance dL.bW {T:an} {base:Nat} {w ab:O} {v:W} {xs:List F3}:Lu (V w ab) (dL T base w v xs) (dL T base ab v xs):=bu λu h=>h.up u
theorem dL.weaken {gL:Nat}{xs:List F3}(h:dL T base w v xs)(hb:gL<=base):dL T gL w v xs:=by
 refine⟨h.1,?_⟩;rcases h.2 with h2|⟨g,ys,e,a,r⟩
 .exact .inl h2
 .exact .inr ⟨g,ys,e,aQ hb a,r⟩
theorem dL.rd {A:Option am}{xs:List F3}(h:dL T base w (D A n c) xs):b2 w A (aS xs):=by
 obtain⟨a,b,e,_⟩:=om h.own;cases e;exact b2.hn h.own
theorem Kw.setRow {T:an}{w:O}{g:Nat}{xs:List F3}(h:Bx T w g (aS xs))(b:∀x∈xs,x.ok)(cs:Array W):Kw w (w.setRow g cs):=by
 refine⟨by simp[World.setRow],λp y a=> ?_⟩
 by_cases hb:p.block=g
 .exfalso;subst hb;unfold Bx at h;unfold World.cell? at a;rw[h]at a;simp only at a
  split at a
  .cases a
  .have:=List.mem_of_getElem? (by simpa using a);exact(sf b this).1
 .rw[cell_setRow_other w g cs p hb];exact a
abbrev iX (T:an):Prop:=(Tryz.prog.info? T).map (λa=>(a.zero,a.size,a.bytes))=U (U (af #[J false,D none 0 0,D none 0 0]),3,56)
theorem zH {ty:an}{xs ms:List F3}{A:Option am}(q:Tryz.prog.underlying TS=U (.slice T))(hI:iX T)
 (h:dL T base w v xs)(M:b2 w A (aS ms))(K:∀x∈ms,x.ok)(hb:xs.length+ms.length<=2000000000000)(H:base<=w.heap.size):
 ∃Q y,(Builtin.append_ #[TS,TS] ty #[v,D A ms.length c]).run ae w= .ok Q y/\dL T base y Q (xs++ms)/\Kw w y/\w.grownBy y v.ownBlock:=by
 obtain⟨l,p,N,u,I⟩:=info_parts hI;have L:=h.own
 have E:∀x∈xs++ms,x.ok:=λx s=>by
  rcases List.mem_append.1 s with j|j
  .exact h.1 x j
  .exact K x j
 have ah:∀ad,A=U ad-> ∀(e:Nat) f,(aS ms)[e]? =U f->w.cell? (ad.add e)=U f:=by
  intro ad z e f B
  have au:0<(aS ms).length:=by
   rcases Nat.eq_zero_or_pos (aS ms).length with b|b
   .have:=List.eq_nil_of_length_eq_zero b;rw[this]at B;simp at B
   .exact b
  obtain⟨R,o,G,_,ag⟩:=M au;rw[z]at G;cases G;have:=ag e f B;unfold Addr.add
  by_cases b:e=0
  .subst b;simpa using this
  .simpa[b]using this
 rcases A with _|ad
 .have ar:ms=[]:=by
   rcases Nat.eq_zero_or_pos ms.length with b|b
   .exact List.eq_nil_of_length_eq_zero b
   .obtain⟨R,aA,z,_⟩:=M (by rw[fe];omega);cases z
  subst ar;refine⟨v,w,rv q p L c,by rw[List.append_nil];exact h,Kw.refl w,gN (V.refl w) _⟩
 .have t:(aS ms).length=ms.length*l.size:=by rw[u,fe]
  have C:=ah ad rfl;rcases h.2 with⟨rfl,rfl⟩|⟨g,a,rfl,aj,s,n,az⟩
  .by_cases b:ms.length=0
   .have:=List.eq_nil_of_length_eq_zero b;subst this;refine⟨D none 0 0,w,?_,dL.nil T base w,Kw.refl w,gN (V.refl w) _⟩;simp[Builtin.append_,run_underlying q,ci,typeInfo,p,Builtin.lenOf,Builtin.firstCells,loadCells,loadCellsFrom]
   .have m:=run_append_nil (P:=ae) w TS ty T l _ q p N ad ms.length c (aS ms) t C (by omega) (by simp at hb;omega) (by rw[I];simp at hb;omega);have ak:=grownCap_ge w ms.length 0 T;have aq:=grownCap_le_maxLen w ms.length 0 T (by simp at hb;simp only[cm];omega);generalize grownCap w ms.length 0 T=d at*;have r:V w (w.drew.alloc (ao ((aS ms).toArray++Builtin.zeroCells (af #[J false,D none 0 0,D none 0 0]).cells (d-ms.length)) T)):=(V.refl w).drew.alloc _;refine⟨_,_,m,⟨by simpa using E,.inr ⟨w.heap.size,bA (d-ms.length) F3.zero,?_,H,?_,?_,?_⟩⟩,r.kw,gN r _⟩
    .simp;omega
    .have i:(aS ms).toArray++Builtin.zeroCells (af #[J false,D none 0 0,D none 0 0]).cells (d-ms.length)=(aS ([]++ms++bA (d-ms.length) F3.zero)).toArray:=by
      apply Array.toList_inj.1;rw[Array.toList_append,hc,<-mh];rfl
     rw[i];exact heap_alloc_new w.drew _
    .intro F n;rw[(List.mem_replicate.1 n).2];exact F3.qB
    .simp;omega
  .by_cases av:xs.length+ms.length<=xs.length+a.length
   .have ai:xs.length*l.size+(aS ms).length<=(aS (xs++a)).toArray.size:=by rw[t,u];simp[fe];omega
    have m:=run_append_room (P:=ae) w TS ty T l q p g xs.length (xs.length+a.length) _ s ad ms.length c (aS ms) t C (λf aw=>(sf K aw).2) av ai
    have i:(((aS (xs++a)).toArray.toList.take (xs.length*l.size)++aS ms++(aS (xs++a)).toArray.toList.drop (xs.length*l.size+(aS ms).length)).toArray)=(aS (xs++ms++a.drop ms.length)).toArray:=by
     have S:(aS (xs++a)).take (xs.length*3)=aS xs:=by rw[<-zD,List.take_left]
     have X:(aS (xs++a)).drop (xs.length*3+ms.length*3)=aS (a.drop ms.length):=by
      have Y:xs.length*3+ms.length*3=(xs.length+ms.length)*3:=by omega
      have Z:(xs++a).drop (xs.length+ms.length)=a.drop ms.length:=by rw[<-List.drop_drop,List.drop_left]
      rw[Y,<-zE,Z]
     have aa:(aS (xs++a)).toArray.toList=aS (xs++a):=rfl;have ab:aS xs++aS ms++aS (a.drop ms.length)=aS (xs++ms++a.drop ms.length):=by rw[hc,hc]
     rw[aa,u,fe ms,S,X,ab]
    rw[i]at m;refine⟨_,_,m,⟨E,.inr ⟨g,a.drop ms.length,?_,aj,setRow_heap w g _ _ T _ s,λF ay=>n F (List.mem_of_mem_drop ay),?_⟩⟩,Kw.setRow s (λx ax=> ?_) _,⟨rfl,rfl,rfl,by simp[World.setRow],λk _ al=>setRow_other w g k _ (λi=>al (by simp[Value.ownBlock,i]))⟩⟩
    .simp;omega
    .simp;omega
    .rcases List.mem_append.1 ax with j|j
     .exact h.1 x j
     .exact n x j
   .have holds:∀e f,(aS xs)[e]? =U f->w.cell? ((⟨g,0,none⟩:am).add e)=U f:=L.cells (g:=g) rfl;have m:=run_append_grow (P:=ae) w TS ty T l _ q p N ⟨g,0,none⟩ xs.length (xs.length+a.length) (aS xs) (by rw[u,fe]) holds ad ms.length c (aS ms) t C (by omega) (by omega) (growslice_fits (by omega) (by rw[I];omega));have ak:=grownCap_ge w (xs.length+ms.length) (xs.length+a.length) T;have aq:=grownCap_le_maxLen w (xs.length+ms.length) (xs.length+a.length) T (by simp only[cm];omega);generalize grownCap w (xs.length+ms.length) (xs.length+a.length) T=d at*;have r:V w (w.drew.alloc (ao ((aS xs).toArray++(aS ms).toArray++Builtin.zeroCells (af #[J false,D none 0 0,D none 0 0]).cells (d-(xs.length+ms.length))) T)):=(V.refl w).drew.alloc _;refine⟨_,_,m,⟨E,.inr ⟨w.heap.size,bA (d-(xs.length+ms.length)) F3.zero,?_,H,?_,?_,?_⟩⟩,r.kw,gN r _⟩
    .simp;omega
    .have i:(aS xs).toArray++(aS ms).toArray++Builtin.zeroCells (af #[J false,D none 0 0,D none 0 0]).cells (d-(xs.length+ms.length))=(aS (xs++ms++bA (d-(xs.length+ms.length)) F3.zero)).toArray:=by
      apply Array.toList_inj.1;rw[Array.toList_append,Array.toList_append,hc,hc,<-mh];rfl
     rw[i];exact heap_alloc_new w.drew _
    .intro F n;rw[(List.mem_replicate.1 n).2];exact F3.qB
    .simp;omega
def aA (P:O->W->α->Prop)(T:an)(base:Nat)(w:O)(v:W)(qs:List α):Prop:= ∃a,Al (λb q=>P w b.agg q) a qs/\dL T base w v a
theorem aA.nil (P:O->W->α->Prop)(T:an)(base:Nat)(w:O):aA P T base w (D none 0 0) []:=⟨[],Al.nil _,dL.nil T base w⟩
theorem aA.sq {P:O->W->α->Prop}{qs:List α}(h:aA P T base w v qs):Sq P w v qs:=by
 obtain⟨f,ha,b⟩:=h
 have d:∃a c,v=D a qs.length c/\qs.length<=c/\c<=cm:=by
  rcases b.2 with⟨rfl,rfl⟩|⟨g,ys,rfl,hb,i,j,e⟩
  .have:qs.length=0:=by rw[<-ha.1];rfl
   exact⟨none,0,by rw[this],by omega,by simp⟩
  .exact⟨_,_,by rw[ha.1],by rw[ha.1];omega,e⟩
 obtain⟨a,c,rfl,h1,h2⟩:=d;exact⟨a,c,f,rfl,h1,h2,ha,b.rd⟩
theorem aA.form {P:O->W->α->Prop}{T:an}{base:Nat}{w:O}{v:W}{qs:List α}(h:aA P T base w v qs):∃a c,v=D a qs.length c:=h.sq.form
theorem aA.kept {P:O->W->α->Prop}(f:Kp P){T:an}{base:Nat}{w ab:O}{v:W}{qs:List α}{row:Option Nat}(h:aA P T base w v qs)(b:Kw w ab)(a:w.grownBy ab row)(c:v.ownBlock=none\/v.ownBlock≠row):aA P T base ab v qs:=by
 obtain⟨g,ha,d⟩:=h;exact⟨g,ha.imp λx q e=>f.kw e b,d.kept a c⟩
theorem aA.up {P:O->W->α->Prop}(b:Kp P){qs:List α}(h:aA P T base w v qs)(a:V w ab):aA P T base ab v qs:=h.kept b a.kw (gN a none) (by cases v.ownBlock<;>simp)
theorem aA.weaken {P:O->W->α->Prop}{T:an}{base gL:Nat}{w:O}{v:W}{qs:List α}(h:aA P T base w v qs)(hb:gL<=base):aA P T gL w v qs:=by
 obtain⟨b,ha,a⟩:=h;exact⟨b,ha,a.weaken hb⟩
theorem aA.lt {P:O->W->α->Prop}{T:an}{base:Nat}{w:O}{v:W}{qs:List α}(h:aA P T base w v qs):∀k,v.ownBlock=U k->base<=k/\k<w.heap.size:=by
 obtain⟨b,ha,a⟩:=h;exact a.own.lt
theorem aA.imp {P Q:O->W->α->Prop}{T:an}{base:Nat}{w:O}{v:W}{qs:List α}(h:aA P T base w v qs)(f:∀{v q},P w v q->Q w v q):aA Q T base w v qs:=by
 obtain⟨c,ha,a⟩:=h;exact⟨c,ha.imp λx q b=>f b,a⟩
theorem mi {c:Nat}{x:F3}(hb:w.heap[g]? =U (ao #[J x.s,x.u,x.d] T (0,0))):b2 w (U ⟨g,0,none⟩) (aS [x]):=λ_=>by
 refine⟨g,0,rfl,(Array.getElem?_eq_some_iff.1 hb).1,λb d a=> ?_⟩;rw[Nat.zero_add,cell_of_row _ _ b _ _ (0,0) hb]
 simpa[aS]using a
theorem sg {P:O->W->α->Prop}(g:Kp P)(L:Tryz.prog.underlying TS=U (.slice T))(hI:iX T)(s y:Operand)
 (F:o.op= .call {callee:= .builtin .append,args:=#[s,y],argTypes:=#[TS,TS]})
 {v:W}{qs rs:List α}(J:a.eval s=v)(H:aA P T w0.heap.size w v qs)(r:V w0 w)
 {A:Option am}{m c:Nat}{ms:List F3}(M:a.eval y=D A m c)(I:b2 w A (aS ms))(ha:Al (λx q=>P w x.agg q) ms rs)(E:m=rs.length)(hb:qs.length+rs.length<=2000000000000)
 (h:∀e b,aA P T w0.heap.size b e (qs++rs)->Kw w b->w.grownBy b v.ownBlock->V w0 b->K (a.put o.dst e) b):o.wp ae a w K Q:=by
 obtain⟨R,j,n⟩:=H
 have G:∀x∈ms,x.ok:=λx d=>by
  obtain⟨t,l⟩:=List.getElem?_of_mem d;have B:t<rs.length:=by rw[<-ha.1];exact(List.getElem?_eq_some_iff.1 l).1
  obtain⟨S,u,N⟩:=g.form (ha.2 t x _ l (aT B));rw[F3.nI u];exact N
 obtain⟨e,b,p,z,f,i⟩:=zH (ty:=o.type) (c:=c) L hI n I G (by rw[j.1,ha.1];exact hb) r.size;rw[ha.1,<-E]at p;unfold Oper.wp execOp;simp only[F,resolve,invoke,builtin,Sem.run_bind,Sem.run_pure,Result.andThen_ok,List.map_toArray,List.map_cons,List.map_nil,J,M,p];exact h e b ⟨R++ms,(j.imp λx q d=>g.kw d f).append (ha.imp λx q d=>g.kw d f),z⟩ f i (r.grown i (λk C=>(n.own.lt k C).1))
theorem oI {P:O->W->α->Prop}(C:Kp P)(u:Tryz.prog.underlying TS=U (.slice T))(hI:iX T)(k:o.guard=none)(s y:Operand)
 (n:o.op= .call {callee:= .builtin .append,args:=#[s,y],argTypes:=#[TS,TS]})
 {v:W}{qs rs:List α}(t:a.eval s=v)(p:aA P T w0.heap.size w v qs)(z:V w0 w)
 {A:Option am}{m c:Nat}{ms:List F3}(B:a.eval y=D A m c)(r:b2 w A (aS ms))(ha:Al (λx q=>P w x.agg q) ms rs)(l:m=rs.length)(hb:qs.length+rs.length<=2000000000000)
 (h:∀d b,aA P T w0.heap.size b d (qs++rs)->Kw w b->w.grownBy b v.ownBlock->V w0 b->bG ae aV Q rest (a.put o.dst d) b):bG ae aV Q (o::rest) a w:=
 wpList_plain k λ_ j=>sg C u hI s y n t p z B r ha l hb λd b e f g i=>j _ _ (h d b e f g i)
theorem fR {P:O->W->α->Prop}(r:Kp P)(m:Tryz.prog.underlying TS=U (.slice T))(hI:iX T)(f:o.guard=none)(s y:Operand)
 (i:o.op= .call {callee:= .builtin .append,args:=#[s,y],argTypes:=#[TS,TS]})
 {v:W}{qs:List α}(l:a.eval s=v)(j:aA P T w0.heap.size w v qs)(n:V w0 w)
 {g c:Nat}{t:Bool}{u d:W}{q:α}(p:a.eval y=D (U ⟨g,0,none⟩) 1 c)(k:w.heap[g]? =U (ao #[J t,u,d] T (0,0)))(ha:P w (af #[J t,u,d]) q)(hb:qs.length<=1000000000000)
 (h:∀e b,aA P T w0.heap.size b e (qs++[q])->Kw w b->w.grownBy b v.ownBlock->V w0 b->bG ae aV Q rest (a.put o.dst e) b):bG ae aV Q (o::rest) a w:=
 oI r m hI f s y i l j n p (mi (c:=c) (x:=⟨t,u,d⟩) k) (Al.one ha) rfl (by simp;omega) h
theorem kg {P:O->W->α->Prop}(r:Kp P)(m:Tryz.prog.underlying TS=U (.slice T))(hI:iX T){aq:Prop}(f:o.guard=none)(s y:Operand)
 (i:o.op= .call {callee:= .builtin .append,args:=#[s,y],argTypes:=#[TS,TS]})
 {v:W}{qs:List α}(l:a.eval s=v)(j:aA P T w0.heap.size w v qs)(n:V w0 w)
 {g c:Nat}{t:Bool}{u d:W}{q:α}(p:a.eval y=D (U ⟨g,0,none⟩) 1 c)(k:w.heap[g]? =U (ao #[J t,u,d] T (0,0)))(ha:P w (af #[J t,u,d]) q)(hb:qs.length<=1000000000000)
 (h:∀e b,aA P T w0.heap.size b e (qs++[q])->Kw w b->w.grownBy b v.ownBlock->V w0 b->K (a.put o.dst e) b):if Region.wanted o (yielded aV a.tmps)=true then Oper.wp ae o a w K Q else aq:=by
 have hw:Region.wanted o (yielded aV a.tmps)=true:=by simp[Region.wanted,f]
 rw[if_pos hw];exact sg r m hI s y i l j n p (mi (c:=c) (x:=⟨t,u,d⟩) k) (Al.one ha) rfl (by simp;omega) h
theorem aA.at_ {P:O->W->α->Prop}(u:Kp P){T:an}{base:Nat}{w:O}{A:Option am}{n c:Nat}{qs:List α}(h:aA P T base w (D A n c) qs){k:Nat}(j:k<qs.length):
 ∃g s B m f ai d a,A=U ⟨g,0,none⟩/\base<=g/\g<w.heap.size/\w.cell? ⟨g,k*3,none⟩=U (J s)/\w.cell? ⟨g,k*3+1,none⟩=U (D B m f)/\w.cell? ⟨g,k*3+2,none⟩=U (D ai d a)/\P w (af #[J s,D B m f,D ai d a]) qs[k]/\(∀i,w.frozen? ⟨g,i,none⟩=false):=by
 obtain⟨b,o,s,B,m,f,ai,d,a,e,hb,c1,c2,c3,q⟩:=h.sq.at_ u j;obtain⟨y,ha,r⟩:=h;rcases r.2 with⟨l,rfl⟩|⟨g,ys,l,p,t,x,v⟩
 .rw[<-ha.1]at j;simp at j
 .subst e;cases l;rw[Nat.zero_add]at c1 c2 c3;exact⟨_,s,B,m,f,ai,d,a,rfl,p,hb,c1,c2,c3,q,λi=>t.free i⟩
theorem aA.store {P:O->W->α->Prop}(v:Kp P){T:an}{w0 w:O}{g n c:Nat}{qs:List α}(h:aA P T w0.heap.size w (D (U ⟨g,0,none⟩) n c) qs)(Q:V w0 w){k:Nat}(K:k<qs.length){s:Bool}{u d:W}{q:α}(E:P w (af #[J s,u,d]) q):
 aA P T w0.heap.size (((w.setCell ⟨g,k*3,none⟩ (J s)).setCell ⟨g,k*3+1,none⟩ u).setCell ⟨g,k*3+2,none⟩ d) (D (U ⟨g,0,none⟩) n c) (qs.set k q)/\Kw w (((w.setCell ⟨g,k*3,none⟩ (J s)).setCell ⟨g,k*3+1,none⟩ u).setCell ⟨g,k*3+2,none⟩ d)/\
  w.grownBy (((w.setCell ⟨g,k*3,none⟩ (J s)).setCell ⟨g,k*3+1,none⟩ u).setCell ⟨g,k*3+2,none⟩ d) (U g)/\V w0 (((w.setCell ⟨g,k*3,none⟩ (J s)).setCell ⟨g,k*3+1,none⟩ u).setCell ⟨g,k*3+2,none⟩ d):=by
 obtain⟨a,ha,r⟩:=h;obtain⟨z,e,R⟩:=v.form E
 obtain⟨rfl,rfl,rfl⟩:s=z.s/\u=z.u/\d=z.d:=by
  simp[F3.agg]at e;exact e
 rcases r.2 with⟨b,rfl⟩|⟨bI,ys,b,f,l,F,M⟩
 .cases b
 .obtain⟨rfl,rfl,rfl⟩:g=bI/\n=a.length/\c=a.length+ys.length:=by
   simp at b;exact b
  have L:k<a.length:=by rw[ha.1];exact K
  have I:∀x∈a++ys,x.ok:=λx t=>by
   rcases List.mem_append.1 t with h1|h1
   .exact r.1 x h1
   .exact F x h1
  have A:=l.set (k*3) (J z.s);have B:=A.set (k*3+1) z.u;have C:=B.set (k*3+2) z.d;obtain⟨y,G⟩:∃y,(a++ys)[k]? =U y:=⟨_,aT (by simp;omega)⟩;obtain⟨q1,q2,S⟩:=mg _ k y G;obtain⟨⟨_,_,_,y1⟩,⟨_,_,_,y2⟩⟩:=I y (List.mem_of_getElem? G)
  have m:=((Kw.store l q1 trivial (J z.s)).trans (Kw.store (i:=k*3+1) (c:=y.u) A (by rw[List.getElem?_set_ne (by omega)];exact q2) (by rw[y1];trivial) z.u)).trans
   (Kw.store (i:=k*3+2) (c:=y.d) B (by rw[List.getElem?_set_ne (by omega),List.getElem?_set_ne (by omega)];exact S) (by rw[y2];trivial) z.d)
  have H:(((aS (a++ys)).set (k*3) (J z.s)).set (k*3+1) z.u).set (k*3+2) z.d=aS (a.set k z++ys):=by
   rw[<-se _ _ _ (by simp;omega),List.set_append_left _ _ L]
  rw[H]at C;refine⟨⟨a.set k z,(ha.imp λx q l=>v.kw l m).set k (v.kw E m),?_,.inr ⟨g,ys,by simp,f,C,F,by simpa using M⟩⟩,m,?_,((Q.setCell (p:=⟨g,k*3,none⟩) f _).setCell (p:=⟨g,k*3+1,none⟩) f _).setCell (p:=⟨g,k*3+2,none⟩) f _⟩
  .intro x t;rcases List.mem_or_eq_of_mem_set t with h1|h1
   .exact r.1 x h1
   .rw[h1];exact R
  .refine⟨rfl,rfl,rfl,by simp[ag],λj X N=> ?_⟩;have o:g≠j:=λe=>N (by rw[e])
   rw[Below.heap_setCell _ _ _ _ (by simpa using o.symm),Below.heap_setCell _ _ _ _ (by simpa using o.symm),Below.heap_setCell _ _ _ _ (by simpa using o.symm)]
theorem aA.made {P:O->W->Rat->Prop}(h:∀w,P w F3.zero.agg 0)(hb:Bx T ab w.heap.size (aS (bA n F3.zero)))(a:V w0 w)(c:n<=1000000000000):aA P T w0.heap.size ab (D (U ⟨w.heap.size,0,none⟩) n n) (bA n 0):=
 ⟨bA n F3.zero,Al.replicate (h ab) n,λx b=>by rw[(List.mem_replicate.1 b).2];exact F3.qB,.inr ⟨w.heap.size,[],by simp,a.size,by rw[List.append_nil];exact hb,by simp,by simp[cm];omega⟩⟩
end Go.Proofs.YtjopfpegcckllaaGreatDoor
