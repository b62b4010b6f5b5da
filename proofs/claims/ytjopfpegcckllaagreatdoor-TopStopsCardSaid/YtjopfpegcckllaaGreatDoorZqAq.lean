/- A part of TopStops's proof: SvMom SvSegm SvWorks. -/
import Derived.RangeFuncNested
import Derived.RangeFuncBound
import Derived.RangeFuncCalls
import Derived.RangeFuncLeaves
import Derived.RangeFuncFrom
import Derived.OrdersIn
import Derived.Deep.RegionHeld3
import Derived.TacticsInMore
import Derived.LoopNIn
import Derived.Deep.DeepCutAuto
import Derived.LoopN
import Derived.Shelf.Abstract
import Derived.Test.YtjopfpegcckllaaGreatDoorZqAp
set_option linter.all false
set_option maxRecDepth 100000
set_option maxHeartbeats 12800000
open Go.Proofs.Tryz
open Go renaming World→O,Value→W,wpAnyH→bJ,AllReadyH→b5,Calls→aj,Addr→am,TypeId→an,Ending→aO,rounds_succ→a9,bodyPost_ret→a4,wp_region_noPanic→aZ,wp_region_held_drew→a3,wpAnyH_done→aW
open Go.Act renaming put→bg
open Go.AllReadyH renaming cons→av,nil→bm
open Go.Ending renaming returned→aw
open Go.IntKind renaming i64→I
open Go.Lib renaming hid→G
open Go.NoPanic renaming normal→aX
open Go.Obj renaming cells→ao
open Go.Proofs.Tryz renaming prog→ae
open Go.RowKit renaming Hid→Y
open Go.Value renaming tuple→aY,int→H,bool→J,slice→D,agg→af,pointer→az,string→al
open Go.World renaming setCell→ag,alloc→ah
open Nat renaming le_refl→a8,le_trans→aQ,zero_le→bn
open Option renaming some→U
variable {α:Type}{qs:List Rat}{new old xs:List W}{a aH c cB cS cT cY ca cb cc ce cp cw fU g gg gx k kp n n0:Nat}{aD ab fI w w0 wb wy:O}{row:Option Nat}{A AS AT AY CW PA SA SB SC SE SP TA TB:Option am}{U0 U2 U3 U4 U5 b e0 h0 h1 h2 k0 k1 o q q1 q2 s0 t t1 t2 u0 u1 x y y1 y2 z:Rat}{v:W}{e:aO}{T:an}
namespace Go.Proofs.YtjopfpegcckllaaGreatDoor
open Go.RowKit
theorem F2 (h:aF k w (D A 2 c) [q1,q2])(ha:a<2):∃g s B m f ai e d,A=U ⟨g,0,none⟩/\g<w.heap.size/\w.cell? ⟨g,a*3,none⟩=U (J s)/\w.cell? ⟨g,a*3+1,none⟩=U (D B m f)/\w.cell? ⟨g,a*3+2,none⟩=U (D ai e d)/\Qk k w (af #[J s,D B m f,D ai e d]) ([q1,q2].getD a 0):=by
 obtain⟨g,C,E,n,B2,o,p,v,x,q,r,y,z,t,u,more,b,hb,j,l⟩:=iA h;obtain rfl|rfl:a=1\/a=0:=by omega
 .exact⟨g,_,_,_,_,_,_,_,b,hb.lt,hb.cell (i:=3) rfl,hb.cell (i:=4) rfl,hb.cell (i:=5) rfl,l⟩
 .exact⟨g,_,_,_,_,_,_,_,b,hb.lt,hb.cell (i:=0) rfl,hb.cell (i:=1) rfl,hb.cell (i:=2) rfl,j⟩
def qm (y:Rat)(g w:O)(e:aO)(f:O):Prop:= ∃(b a:Option am) (d c:Nat),e=aw (aY #[af #[D b 1 d,D a 0 c],af #[H I 0,H I 0,H I 0,H I 0]])/\aL 130 g f (D b 1 d) [y]/\(∀w2,aU 2 w2 (D a 0 c) [])/\V w f
theorem qm.of (u:V wb w)(h:v5 y w e ab):qm y wb w e ab:=by
 obtain⟨b,a,d,c,f,h1,h2⟩:=h;exact⟨b,a,d,c,f,h1.weaken u,h2⟩
theorem Gk.eF {r:Nat}{w1:O}(h:Gk g w w1)(b:Bs T r w1 ab old new)(a:w.heap.size<=r):Gk g w ab:=⟨h.gb.bs b a⟩
def F4 (w:O)(g gg:Nat)(xs:List W)(y:Rat)(e:aO)(a:O):Prop:=e=aw (af #[H I 0,H I 0,H I 0,H I 0])/\Gb g w a/\ ∃(b c:Option am) (f d:Nat),Bx 126 a g (xs++[D b 1 f,D c 0 d,az (U ⟨gg,0,none⟩)])/\aF 130 a (D b 1 f) [y]/\(∀w2,aU 2 w2 (D c 0 d) [])
theorem F5 {n:ay}{nm:ByteArray}{s1:Bool}{A1 D1 CY:Option am}{n1 c1 m1 d1 ky cy:Nat}
 (b0:c7 kp w [D TA 1 aH,D TB 1 cB,H I 1,H I 0,al nm,D SC 2 cc,D SA 2 ca,D SB 2 cb,D SE 2 ce,D PA 0 cp,H I 200] (Z.qb n (aE z) (aE o) (aE b) nm))(cR:Y (eD (Z.qb n (aE z) (aE o) (aE b) nm)))(bA:Y ((Z.qb n (aE z) (aE o) (aE b) nm).right=true))(cP:Y (Z.c9 [⟨3,0,0,n⟩] [0] 1 0=true))(b2:dG w0 w (D SC 2 cc) (D SA 2 ca) (D SB 2 cb) (D SE 2 ce) z o b)(b7:Fr w (af #[J s1,D A1 n1 c1,D D1 m1 d1]) t 90000)(bX:aF k w (D AS 2 cS) [h1,h2])(b8:aU ky w (D CY 1 cy) [y])(bZ:aF 130 w (D CW 1 cw) [x])(cU:Y (∀w2,aU 2 w2 (D SP 0 fU) []))
 (bz:Bx 126 w gx [D TA 1 aH,D TB 1 cB,H I 1,H I 0,al nm,D SC 2 cc,D SA 2 ca,D SB 2 cb,D SE 2 ce,D PA 0 cp,H I 200,H I 1,D AS 2 cS,D AT 2 cT,D AY 2 cY,D CW 1 cw,D SP 0 fU,az (U ⟨gg,0,none⟩)])(ha:a<2)(cG:[h1,h2].getD a 0=h0)(cH:k<=90000)
 (cF:Y ((Z.step (Z.qb n (aE z) (aE o) (aE b) nm).pr t h0 [y]).1=Z.aG/\(Z.step (Z.qb n (aE z) (aE o) (aE b) nm).pr t h0 [y]).2.ys=[[u0],[u1]]))(cQ:Y (∀t,Z.run (Ga.a5 200) t [u0] [] [⟨3,0,0,n⟩] []=(Z.aG,[u0])/\Z.run (Ga.a5 200) t [u1] [] [⟨3,0,0,n⟩] []=(Z.aG,[u1])))
 (cJ:Y (h0*(b*x)=k1/\k1≠0/\(Z.bits k1:Int)<=Ga.a5 200/\E.Lq k1 130/\E.Lq (x+k1) 130))(cI:Y (h0*(b*x+o*k1)=k0/\k0≠0/\(Z.bits k0:Int)<=Ga.a5 200/\E.Lq k0 130/\E.Lq (x+k1+k0) 130))(cV:Y ((Z.bits (x+k1+k0):Int)<=Ga.a5 200/\E.Lq x 130))(cK:kp<=1000)(cM:ky<=1000):
 aj ae 94 #[az (U ⟨gx,0,none⟩),H I (a:Int),af #[J s1,D A1 n1 c1,D D1 m1 d1],D CY 1 cy] w (F4 w gx gg [D TA 1 aH,D TB 1 cB,H I 1,H I 0,al nm,D SC 2 cc,D SA 2 ca,D SB 2 cb,D SE 2 ce,D PA 0 cp,H I 200,H I 1,D AS 2 cS,D AT 2 cT,D AY 2 cY] (x+k1+k0)):=by
 have bI:=G b0;have bL:=G b2;have bQ:=G b8;have bO:=G b7;have bH:=G bZ;have dk:=bz.lt;obtain⟨T,bF,B,l,bt,ai,bB,bu,rfl,bj,bT,d1,d2,bD⟩:=F2 bX ha;rw[cG]at bD;have bK:=G (bD.fr.mono cH);have bP:Y (∀s,V w s->s.cell? ⟨T,a*3,none⟩=U (J bF)/\s.cell? ⟨T,a*3+1,none⟩=U (D B l bt)/\s.cell? ⟨T,a*3+2,none⟩=U (D ai bB bu)):=G λs a9=>⟨(a9.cell (p:=⟨T,a*3,none⟩) bj).trans bT,(a9.cell (p:=⟨T,a*3+1,none⟩) bj).trans d1,(a9.cell (p:=⟨T,a*3+2,none⟩) bj).trans d2⟩
 have dn:(0:Int)<=(a:Int):=by omega
 have dq:(a:Int)<2:=by omega
 have dr:((a:Int)).toNat=a:=by omega
 clear b0 b2 b8 b7 bZ bX bT d1 d2 bD bj;go_enter func94,ntmps94;go_upto_region 1 with fail
 generalize v:ah (ah w _) _=aQ at*;obtain⟨c,f,g⟩:=br v;clear v;have M:=g.c4;have aS:=g.free;have aR:=G c;have bl:=G (bz.up c);have bo:=G g;have a1:Y (∀s,V aQ s->s.cell? ⟨T,a*3,none⟩=U (J bF)/\s.cell? ⟨T,a*3+1,none⟩=U (D B l bt)/\s.cell? ⟨T,a*3+2,none⟩=U (D ai bB bu)):=G λs a9=>bP.out s (aR.out.trans a9)
 clear bz c bP g M aS
 go_cut [9,10] (λc2 c0 bk=> ∃(F a7:Nat) (bb ba:Option am) (bi bd:Nat),c2=az (U ⟨F,0,none⟩)/\c0=az (U ⟨a7,0,none⟩)/\(aQ.heap.size<=F/\aQ.heap.size<=a7/\F≠a7)/\Bx 84 bk F [D bb 1 bi,D ba 0 bd]/\Bx 63 bk a7 [H I 0,H I 0,H I 0,H I 0]/\aL 130 aQ bk (D bb 1 bi) [x+k1+k0]/\(∀w2,aU 2 w2 (D ba 0 bd) [])/\V aQ bk)
 case first=>
  have c:=V.refl aQ;have e:=bl.out;obtain⟨aq,ar,aD,aG,aI,aJ,aK,aM,aN,aO,aw⟩:=e.ek;have aB:=e.k 12;have aC:=e.k 15;have X:=f.k 0;have ab:=f.k 1;have an:=f.k 2;revert f c e aq ar aD aG aI aJ aK aM aN;refine au (V.refl aQ).drew ?_;intro f c e aq ar aD aG aI aJ aK aM aN;revert aO aw aB aC X ab an;refine bS (V.refl aQ).drew ?_;intro aO aw aB aC X ab an
  refine aZ ?_;refine a3 (S:=λs=>V aQ s/\Cz s gx 0 [D TA 1 aH,D TB 1 cB,H I 1,H I 0,al nm,D SC 2 cc,D SA 2 ca,D SB 2 cb,D SE 2 ce,D PA 0 cp,H I 200]/\Cz s gx 12 [D (U ⟨T,0,none⟩) 2 cS]/\Cz s gx 15 [D CW 1 cw]/\Cz s (w.heap.size) 0 [J s1,D A1 n1 c1,D D1 m1 d1]/\(s.cell? ⟨T,a*3,none⟩=U (J bF)/\s.cell? ⟨T,a*3+1,none⟩=U (D B l bt)/\s.cell? ⟨T,a*3+2,none⟩=U (D ai bB bu))) (by kernel_rfl) (by exact⟨c,e.cy 0 11,e.cy 12 1,e.cy 15 1,f.cz,a1.out _ c⟩) (λA=> ?_);generalize aQ.drew=C at*;refine aa 0 ?_;refine aa 1 ?_;refine aa 2 ?_;refine aa 3 ?_;refine aa 4 ?_;refine aa 5 ?_;refine aa 6 ?_;refine aa 7 ?_;refine aa 8 ?_;refine aa 9 ?_;refine aa 10 ?_;refine aa 11 ?_;refine aa 12 ?_;refine aa 13 ?_;refine aa 14 ?_;refine aa 15 ?_;refine aa 16 ?_;refine aa 17 ?_
  repeat' first
   |(have m:=b1;clear b1
     (try clear A)
     go_simp;go_at_call 131
     with_reducible refine((F1 (bI.out.up (aR.out.trans c)) cR bA cP (bL.out.up (aR.out.trans c)) (bO.out.up (aR.out.trans c)) (bK.out.up (aR.out.trans c)) (bQ.out.up (aR.out.trans c)) (bH.out.up (aR.out.trans c)) cF cQ cJ cI cV cK cM).mono λ_ _ cE=>qm.of c cE).mono ?_
     rintro bU C ⟨c4,c3,da,c9,rfl,r,ao,aP⟩;revert f c e aq ar aD aG aI aJ aK aM aN;refine au aP ?_;intro f c e aq ar aD aG aI aJ aK aM aN;revert aO aw aB aC;refine bf aP ?_;intro aO aw aB aC
     try(replace F:=F.up aP)
     try(replace L:=L.up aP)
     clear X ab an;have X:=f.k 0;have ab:=f.k 1;have an:=f.k 2;clear aP
     try go_wp2_with fail
     refine ax m (by exact⟨c,e.cy 0 11,e.cy 12 1,e.cy 15 1,f.cz,a1.out _ c⟩) (λA=> ?_);clear m K)
   |(have m:=b4;clear b4
     (try clear A)
     go_simp;have du:=e.lt;have c8:=f.lt;have cx:=c.size
     try(have bV:=L.lt)
     generalize aY:C.heap.size=cA at*;generalize v:ah C _=C at*;obtain⟨P,F⟩:=b3 v aY;clear v aY
     try(replace r:=r.up P)
     try(replace ao:=ao.up P)
     revert f c e aq ar aD aG aI aJ aK aM aN;refine au P ?_;intro f c e aq ar aD aG aI aJ aK aM aN;revert aO aw aB aC;refine bf P ?_;intro aO aw aB aC
     try(replace L:=L.up P)
     clear X ab an;have X:=f.k 0;have ab:=f.k 1;have an:=f.k 2;clear P;refine ax m (by exact⟨c,e.cy 0 11,e.cy 12 1,e.cy 15 1,f.cz,a1.out _ c⟩) (λA=> ?_);clear m K)
   |(have m:=b6;clear b6
     (try clear A)
     go_simp;have dt:=e.lt;have c6:=f.lt;have co:=c.size
     try(have bW:=F.lt)
     generalize aY:C.heap.size=cz at*;generalize v:ah C _=C at*;obtain⟨P,L⟩:=b3 v aY;clear v aY
     try(replace r:=r.up P)
     try(replace ao:=ao.up P)
     revert f c e aq ar aD aG aI aJ aK aM aN;refine au P ?_;intro f c e aq ar aD aG aI aJ aK aM aN;revert aO aw aB aC;refine bf P ?_;intro aO aw aB aC
     try(replace F:=F.up P)
     clear X ab an;have X:=f.k 0;have ab:=f.k 1;have an:=f.k 2;clear P;refine ax m (by exact⟨c,e.cy 0 11,e.cy 12 1,e.cy 15 1,f.cz,a1.out _ c⟩) (λA=> ?_);clear m K)
   |(have m:=cn;clear cn
     (try clear A)
     have bq:=F.k 0;have bs:=F.k 1;have bv:=F.free 0;have bx:=F.free 1;go_simp;clear bq bs bv bx;generalize v:ag (ag C _ _) _ _=C at*;have d:=dp F v;clear v
     try(replace r:=dN r d (by decide))
     try(replace ao:=ao.kw d.kw)
     replace e:=e.bs d;replace f:=f.bs d;replace L:=L.bs d (by first|omega|(have:=bV;omega)|(have:=bW;omega));replace F:=d.new;replace c:=c.bs d;clear d;clear aq ar aD aG aI aJ aK aM aN aO aw aB aC;obtain⟨aq,ar,aD,aG,aI,aJ,aK,aM,aN,aO,aw⟩:=e.ek;have aB:=e.k 12;have aC:=e.k 15;clear X ab an;have X:=f.k 0;have ab:=f.k 1;have an:=f.k 2;refine ax m (by exact⟨c,e.cy 0 11,e.cy 12 1,e.cy 15 1,f.cz,a1.out _ c⟩) (λA=> ?_);clear m K)
   |(have m:=cu;clear cu
     (try clear A)
     have bq:=L.k 0;have bs:=L.k 1;have cj:=L.k 2;have ck:=L.k 3;have bv:=L.free 0;have bx:=L.free 1;have ct:=L.free 2;have cv:=L.free 3;go_simp;clear bq bs cj ck bv bx ct cv;generalize v:ag (ag (ag (ag C _ _) _ _) _ _) _ _=C at*;have d:=bp L v;clear v
     try(replace r:=dN r d (by decide))
     try(replace ao:=ao.kw d.kw)
     replace e:=e.bs d;replace f:=f.bs d;replace F:=F.bs d (by first|omega|(have:=bW;omega)|(have:=bV;omega));replace L:=d.new;replace c:=c.bs d;clear d;clear aq ar aD aG aI aJ aK aM aN aO aw aB aC;obtain⟨aq,ar,aD,aG,aI,aJ,aK,aM,aN,aO,aw⟩:=e.ek;have aB:=e.k 12;have aC:=e.k 15;clear X ab an;have X:=f.k 0;have ab:=f.k 1;have an:=f.k 2;refine ax m (by exact⟨c,e.cy 0 11,e.cy 12 1,e.cy 15 1,f.cz,a1.out _ c⟩) (λA=> ?_);clear m K)
   |(with_reducible show b5 _ _ _ _ _ _ _ _ _ _
     first
      |refine av (i:=18) rfl (λK b1=> ?_) ?_
      |refine av (i:=22) rfl (λK b4=> ?_) ?_
      |refine av (i:=23) rfl (λK b6=> ?_) ?_
      |refine av (i:=24) rfl (λK cn=> ?_) ?_
      |refine av (i:=25) rfl (λK cu=> ?_) ?_
      |exact bm)
   |(with_reducible show bJ _ _ _ _ _ _ _ _ _
     first
      |refine ak [18,22,23] ?_
      |refine ak [18,22] ?_
      |refine ak [18,23] ?_
      |refine ak [22,23] ?_
      |refine ak [18] ?_
      |refine ak [22] ?_
      |refine ak [23] ?_
      |refine ak [24] ?_
      |refine ak [25] ?_
      |refine aa 19 ?_
      |refine aa 20 ?_
      |refine aa 21 ?_
      |refine aW (by decide +kernel) (aX ?_) _)
   |fail
  all_goals try clear A
  all_goals have de:=F.c2
  all_goals have dc:=L.c4
  all_goals
   have cN:=cx;have cO:=co;go_wp2_with fail
   go_meet
   exact⟨cA,cz,_,_,_,_,rfl,rfl,⟨cN,cO,cL F L (by decide)⟩,F,L,r,ao,c⟩
 case rest=>
  obtain⟨F,a7,bb,ba,bi,bd,rfl,rfl,⟨dj,dh,dm⟩,j,u,r,ao,a5⟩:=hcut;have N:Gk gx w wc:=⟨Gb.up (aR.out.trans a5)⟩;obtain⟨cd,db,u9⟩:=fk (n:=0) (w:=aQ) (bn _);have c:=u9.trans a5;have l:=bl.out.up a5;have g:=bo.out.up a5;have di:=bo.out.lt;have cg:=G ao;clear u9 a5 bl bo ao aR a1 bI bL bQ bO bH bK;have M:=g.c4;have aS:=g.free;have aV:=j.c2;have aT:=u.c4;have cW:=l.k 15;have ds:=l.free 15;go_wp2_with fail;skip;generalize v:ag wc _ _=bR at*;have d:=eJ l v;clear v;replace r:=dN r d (by decide);replace N:=N.bs d;replace g:=g.bs d;replace j:=j.bs d;replace u:=u.bs d;replace l:=d.new;replace c:=c.bs d;clear d;clear M cW;have M:=g.c4;replace aS:=g.free;replace aV:=j.c2;replace aT:=u.c4;have W:=l.k 16;revert r N g j u l c M W;refine bE (V.refl bR).drew ?_;intro r N g j u l c M W
  replace aS:=g.free;replace aV:=j.c2;replace aT:=u.c4;refine aZ ?_;refine a3 (S:=λs=>V cd s/\Cz s F 0 [D bb 1 bi,D ba 0 bd]) (by kernel_rfl) (by exact⟨c,j.cz⟩) (λA=> ?_);generalize bR.drew=C at*;refine aa 0 ?_;refine aa 1 ?_;refine aa 2 ?_;refine aa 3 ?_;refine aa 5 ?_;refine aa 6 ?_
  repeat' first
   |(have m:=cC;clear cC
     (try clear A)
     go_simp;refine ax m (by exact⟨c,j.cz⟩) (λA=> ?_);clear m K)
   |(have m:=cD;clear cD
     (try clear A)
     go_simp;have cZ:=l.lt;have dv:=g.lt;have df:=j.lt;have dd:=u.lt;have dw:=c.size;generalize aY:C.heap.size=dg at*;generalize v:ah C _=C at*;obtain⟨P,R⟩:=b3 v aY;clear v aY;revert r N g j u l c W;refine b9 P ?_;intro r N g j u l c W
     try(replace a2:=a2.up P)
     replace aS:=g.free;clear M;have M:=g.c4;replace aV:=j.c2;replace aT:=u.c4;clear P;refine ax m (by exact⟨c,j.cz⟩) (λA=> ?_);clear m K)
   |(have m:=bh;clear bh
     (try clear A)
     go_simp;go_at_call 118
     with_reducible refine(qd (K:=2) (n:=0) (rs:=[]) R (cU.out _) (cg.out _) rfl (G rfl) (G rfl) (G λq bA=>absurd bA (List.not_mem_nil)) (by simp) (by decide) (by decide)).mono ?_
     rintro bU C ⟨cf,cm,rfl,a2,aP⟩;revert r N g j u l c W;refine b9 aP ?_;intro r N g j u l c W
     try(replace R:=R.up aP)
     replace aS:=g.free;clear M;have M:=g.c4;replace aV:=j.c2;replace aT:=u.c4;clear aP
     try go_wp2_with fail
     refine ax m (by exact⟨c,j.cz⟩) (λA=> ?_);clear m K)
   |(have m:=bY;clear bY
     (try clear A)
     have ci:=l.k 16;have cr:=l.free 16;go_simp;clear ci cr;generalize v:ag C _ _=C at*;have d:=eJ l v;clear v;replace r:=dN r d (by decide);replace N:=N.bs d
     try(replace a2:=dN a2 d (by decide))
     replace g:=g.bs d;replace j:=j.bs d;replace u:=u.bs d;replace R:=R.bs d (by first|omega|(have:=dx;omega)|(have:=cZ;omega));replace l:=d.new;replace c:=c.bs d;clear d;clear W;have W:=l.k 16;replace aS:=g.free;clear M;have M:=g.c4;replace aV:=j.c2;replace aT:=u.c4;refine ax m (by exact⟨c,j.cz⟩) (λA=> ?_);clear m K)
   |(with_reducible show b5 _ _ _ _ _ _ _ _ _ _
     first
      |refine av (i:=4) rfl (λK cC=> ?_) ?_
      |refine av (i:=7) rfl (λK cD=> ?_) ?_
      |refine av (i:=8) rfl (λK bh=> ?_) ?_
      |refine av (i:=14) rfl (λK bY=> ?_) ?_
      |exact bm)
   |(with_reducible show bJ _ _ _ _ _ _ _ _ _
     first
      |refine ak [4] ?_
      |refine ak [7] ?_
      |refine ak [8] ?_
      |refine ak [14] ?_
      |refine ak [14] ?_
      |refine ak [4] ?_
      |refine aa 9 ?_
      |refine aa 10 ?_
      |refine aa 11 ?_
      |refine aa 12 ?_
      |refine aa 13 ?_
      |refine aW (by decide +kernel) (aX ?_) _)
   |fail
  all_goals try clear A
  all_goals have bG:=R.c2
  have ch:=G (λw2=>jA (Q:=cX 2) (aA.sq a2) w2);clear a2;have a8:=l.k 17;go_wp2_with fail;revert r N g j u R l c W M a8;refine bC (V.refl C).drew ?_;intro r N g j u R l c W M a8
  replace aS:=g.free;replace aV:=j.c2;replace aT:=u.c4;replace bG:=R.c2;refine aZ ?_;refine a3 (S:=λs=>V cd s/\Cz s gx 16 [D cf 0 cm,az (U ⟨gg,0,none⟩)]) (by kernel_rfl) (by exact⟨c,l.cy 16 2⟩) (λA=> ?_);generalize C.drew=C at*;refine aa 0 ?_;refine aa 1 ?_;refine aa 2 ?_;refine aa 3 ?_;refine aa 4 ?_;refine aa 5 ?_;refine aa 6 ?_;refine aa 7 ?_
  repeat' first
   |(have m:=bh;clear bh
     (try clear A)
     go_simp;go_at_call 119
     with_reducible refine(vZ C).mono ?_
     rintro bU C ⟨rfl,aP⟩;revert r N g j u R l c W a8;refine bw aP ?_;intro r N g j u R l c W a8
     replace aS:=g.free;clear M;have M:=g.c4;replace aV:=j.c2;replace aT:=u.c4;replace bG:=R.c2;clear aP
     try go_wp2_with fail
     refine ax m (by exact⟨c,l.cy 16 2⟩) (λA=> ?_);clear m K)
   |(with_reducible show b5 _ _ _ _ _ _ _ _ _ _
     first
      |refine av (i:=8) rfl (λK bh=> ?_) ?_
      |exact bm)
   |(with_reducible show bJ _ _ _ _ _ _ _ _ _
     first
      |refine ak [8] ?_
      |refine aa 9 ?_
      |refine aa 10 ?_
      |refine aa 11 ?_
      |refine aa 12 ?_
      |refine aa 13 ?_
      |refine aW (by decide +kernel) (aX ?_) _)
   |fail
  all_goals try clear A
  go_wp2_with fail;generalize v:ag (ag (ag (ag C _ _) _ _) _ _) _ _=c5 at*;have d:=bp g v;clear v;replace r:=dN r d (by decide);replace N:=N.eF d (by omega);replace l:=l.bs d;replace j:=j.bs d;replace u:=u.bs d;replace R:=R.bs d;replace g:=d.new;replace c:=c.bs d;clear d;clear M W a8;have M:=g.c4;replace aV:=j.c2;replace aT:=u.c4;replace bG:=R.c2;go_wp2_with fail;exact a4 (cl rfl rfl bM bN g rfl) rfl ⟨rfl,N.gb,_,_,_,_,l,aL.a r,ch.out⟩
def nG (o:Oper):Bool:=match o.op with
 | .defer _=>false
 |_=>true
theorem F6 {P:Program}{aV:Array Oper}{Q:Exit->Act->O->Prop}{i l n:Nat}{K:Act->O->Prop}{a:Act}{w:O}(j:∀a w,¬Q .outgrown a w)(p:aV.all nG=true)(h:wpOp P aV Q i K a w):wpOpIn (Fence.wide.inRound l) n P aV Q i K a w:=by
 unfold wpOp at h;unfold wpOpIn;cases e:aV[i]? with
 |none=>simpa[e]using h
 |some o=>
  have k:∀c,o.op≠ .defer c:=λc b=>by
   have d:=Array.all_eq_true'.1 p o (Array.mem_of_getElem? e);unfold nG at d;rw[b]at d;cases d
  simp only[e]at h|-
  by_cases hw:Region.wanted o (yielded aV a.tmps)=true
  .rw[if_pos hw]at h|-;rcases h with h|⟨_,t,u,h⟩
   .refine⟨λA _=>trivial,?_⟩;rw[Fence.inRound_round,Oper.semAt_some l _ o k];unfold Oper.wp at h;generalize(execOp a.eval o).run P w=r at*;cases r with
    |ok m f=>
     cases m with
     |enter A args=>exact⟨λb=>(by cases b),CallsIn.inRound l (callsIn_wide.2 h)⟩
     |row row args=>exact⟨λb=>(by cases b),λc g _=>let⟨s,f,r,q⟩:=h c g;⟨s,f,r,stepsIn_wide.2 q⟩⟩
     |_=>first|exact h|exact h.elim
    |halt m f=>cases m<;>first|exact h|exact h.elim
   .exact absurd h (j _ _)
  .rw[if_neg hw]at h|-;exact⟨λA _=>trivial,h⟩
theorem v6 {P:Program}{aV:Array Oper}{Q:Exit->Act->O->Prop}{md:Region.Mode}{l n:Nat}(b:∀a w,¬Q .outgrown a w)(c:aV.all nG=true):∀(f:Nat) (d:Array Bool) (a:Act) (w:O),wpAny P md aV Q f d a w->wpAnyIn (Fence.wide.inRound l) n P md aV Q f d a w
 |0,_,_,_,m=>m
 |f+1,_,_,_,m=>⟨m.1,λg e=>wpOpIn_mono (λa w=>v6 b c f _ a w) (F6 b c (m.2 g e))⟩
theorem F7 {P:Program}{aV:Array Oper}{Q:Exit->Act->O->Prop}{S:O->Prop}{id l:Nat}{a:Act}(d:P.follows .mixedOrders=true)(b:∀a w,¬Q .outgrown a w)(e:aV.all nG=true)(c:S w.drew)
 (h:S w.drew->bJ P .any aV (NoPanic Q) S aV.size (Array.replicate aV.size false) a w.drew):(Code.region id aV true).wpIn (Fence.wide.inRound l) n P Q a w:=
 wpIn_mono (wpIn_region_any d (v6 (Q:=NoPanic Q) b e _ _ _ _ (wpAny_of_held _ _ _ _ (h c)))) NoPanic.imp
theorem v7 (a:aD.grownBy fI row)(c:∀r,row=U r-> ∃o:Obj,aD.heap[r]? =U o/\o.isCells=false):Kw aD fI:=⟨a.size,λp d b=>cell_kept b a c⟩
theorem v8 {vs:List W}(h:Bx T aD g vs)(e:aD.grownBy fI row)(f:∀r,row=U r-> ∃o:Obj,aD.heap[r]? =U o/\o.isCells=false):Bx T fI g vs:=(e.block g h.lt (λb=>by
 obtain⟨o,a,d⟩:=f g b.symm;have c:aD.heap[g]? =_:=h;rw[c]at a;cases a;cases d)).trans h
theorem F8 (h:aF k aD v qs)(b:aD.grownBy fI row)(d:∀r,row=U r-> ∃o:Obj,aD.heap[r]? =U o/\o.isCells=false):aF k fI v qs:=by
 refine aA.kept (aR k) h (v7 b d) b ?_;obtain⟨l,_,f⟩:=h;rcases f.2 with⟨rfl,_⟩|⟨a,m,rfl,_,j,_⟩
 .exact .inl rfl
 .refine .inr λe=> ?_
  obtain⟨o,c,i⟩:=d a (by rw[<-e];rfl);have g:aD.heap[a]? =_:=j;rw[g]at c;cases c;cases i
def F9 (w:O)(e:aO)(b:O):Prop:= ∃a,e=aw (.func (.func 130) #[] #[az (U ⟨a,0,none⟩)])/\Bx 3 b a [H I 1]/\V w b
theorem Gc (w:O):aj ae 93 #[H I 1] w (F9 w):=by
 go_enter func93,ntmps93;go_wp2_with fail;go_ret;exact⟨_,rfl,Bx.new _ _ _,(V.refl w).alloc _⟩
attribute [local go_sem] Oper.semAt_some
theorem Gd {B:Nat}(hb:Bx 3 w0 B [H I 1]):SeqStopsK Fence.wide n ae 130 #[az (U ⟨B,0,none⟩)] (λx:{x:Int//x=0}=>#[H I x.1]) KeepsWalks (λxs=>xs=[⟨0,rfl⟩]) (λ_=>True) 1 w0:=by
 intro y j k a g r s i c;have t:a.cell? ⟨B,0,none⟩=U (H I 1):=(g.cell (p:=⟨B,0,none⟩) hb.lt).trans (hb.k 0);obtain⟨q,z,m,o,v,f⟩:=i [] ⟨0,rfl⟩ a c (by simp);refine callsIn_of_wp func130 rfl trivial ?_ rfl;simp only[ntmps130,List.size_toArray,List.length_cons,List.length_nil,Nat.reduceAdd,Nat.reduceSub,Array.replicate_succ,Array.replicate_zero,List.push_toArray,List.append_toArray,List.nil_append,List.cons_append]
 gi_wp2
 refine wpIn_loop_rounds 2 ?_;rw[roundsIn_succ]
 gi_wp2
 refine⟨λb=>(by cases b),f.mono ?_⟩;rintro b l (⟨rfl,d,u⟩|⟨rfl,e⟩)
 .gi_wp2
  rw[roundsIn_succ]
  gi_wp2
  go_end0
  exact⟨⟨_,rfl⟩,.inl d⟩
 .gi_wp2
  refine a4 (results_none rfl _ _ _) rfl ?_;exact⟨⟨_,rfl⟩,.inr ⟨_,e⟩⟩
def qn (k:Nat)(t:Rat)(w:O)(e:aO)(c:O):Prop:= ∃(a:Option am) (b:Nat),e=aw (D a 1 b)/\aL k w c (D a 1 b) [t]/\V w c
theorem Ge {nm:ByteArray}(aT:Bx 126 w gx [D TA 1 aH,D TB 1 cB,H I 1,H I 0,al nm,D SC 2 cc,D SA 2 ca,D SB 2 cb,D SE 2 ce,D PA 0 cp,H I 200,H I 1,D AS 2 cS,D AT 2 cT,D AY 2 cY,D CW 1 cw,D SP 0 fU,az (U ⟨gg,0,none⟩)])(bn:aF k w (D AS 2 cS) [h1,h2])(bw:aF k w (D AT 2 cT) [q1,q2])(ha:a<2)(cj:k<=100000):
 aj ae 92 #[az (U ⟨gx,0,none⟩),af #[H I (a:Int),H I ((a:Int)+1)]] w (qn k ([q1,q2].getD a 0) w):=by
 have aS:Y (2<=cS):=G (by
  obtain⟨_,_,_,W,h2,_⟩:=aA.sq bn;cases W;exact h2)
 obtain⟨bv,cr,ct,b8,B2,b9,cd,ck,cl,cf,cg,cm,cn,ch,ci,more,rfl,c,bp,bq⟩:=iA bn;obtain⟨gt,aM,aN,ay,aB,aD,aE,aG,aI,c1,c2,aJ,aK,d1,d2,co,rfl,d,br,bs⟩:=iA bw;clear bn bw;obtain rfl|rfl:a=0\/a=1:=by omega
 .skip;have b:V w (w.alloc (ao #[H I 0,H I 1] 130)):=(V.refl w).alloc _;have g:=Bx.new 130 w [H I 0,H I 1];have e:=aT.up b;have c:=c.up b;have d:=d.up b;have m:=bp.up b;have l:=br.up b;clear aT bp bq br bs;show aj ae 92 #[az (U ⟨gx,0,none⟩),af #[H I 0,H I 1]] w (qn k q1 w);go_enter func92,ntmps92;go_upto_region 1 with fail
  generalize(w.alloc (ao #[H I 0,H I 1] 130))=T at*;have kw:IntKind.i64.wrap 0=0:=by decide
  have t:=g.k 0;have u:=g.k 1;have v:=e.k 11;have x:=e.k 12;have y:=e.k 13;have X:=d.k 0;have Z:=d.k 1;have ab:=d.k 2;have C:=c.k 0;have E:=c.k 1;have F:=c.k 2;revert b g e c d m l t u v x y;refine au (V.refl T).drew ?_;intro b g e c d m l t u v x y;revert X Z ab C E F;refine bO (V.refl T).drew ?_;intro X Z ab C E F
  refine aZ ?_;refine a3 (S:=λP=>V w P/\Cz P (w.heap.size) 0 [H I 0,H I 1]/\Cz P gx 11 [H I 1,D (U ⟨bv,0,none⟩) 2 cS,D (U ⟨gt,0,none⟩) 2 cT]/\Cz P gt 0 [J aM,D ay aG c1,D aD aJ d1]) (by kernel_rfl) (by exact⟨b,g.cz,e.cy 11 3,d.cy 0 3⟩) (λz=> ?_);generalize T.drew=s at*;refine aa 0 ?_;refine aa 1 ?_;refine aa 2 ?_;refine aa 3 ?_;refine aa 4 ?_;refine aa 5 ?_;refine aa 6 ?_;refine aa 7 ?_;refine aa 8 ?_;refine aa 9 ?_;refine aa 10 ?_;refine aa 11 ?_;refine aa 12 ?_;refine aa 13 ?_;refine aa 14 ?_
  repeat' first
   |(have A:=aV;clear aV
     (try clear z)
     go_simp;have bG:=g.lt;have bP:=e.lt;have bZ:=c.lt;have b6:=d.lt;have b1:=b.size;generalize aQ:s.heap.size=bl at*;generalize o:ah s _=s at*;obtain⟨N,f⟩:=b3 o aQ;clear o aQ;revert b g e c d m l t u;refine bE N ?_;intro b g e c d m l t u
     clear v x y;have v:=e.k 11;have x:=e.k 12;have y:=e.k 13;clear C E F;have C:=c.k 0;have E:=c.k 1;have F:=c.k 2;clear X Z ab;have X:=d.k 0;have Z:=d.k 1;have ab:=d.k 2;clear N;refine ax A (by exact⟨b,g.cz,e.cy 11 3,d.cy 0 3⟩) (λz=> ?_);clear A R)
   |(have A:=bh;clear bh
     (try clear z)
     obtain⟨ba,bb,bd⟩:=f.c3;have bi:=f.free 0;have bj:=f.free 1;have bk:=f.free 2;go_simp;clear ba bb bd bi bj bk;generalize o:ag (ag (ag s _ _) _ _) _ _=s at*;have j:=dh f o;clear o;replace m:=m.kw j.kw;replace l:=l.kw j.kw;replace g:=g.bs j;replace e:=e.bs j;replace c:=c.bs j;replace d:=d.bs j;replace f:=j.new;replace b:=b.bs j;clear j;clear t u;have t:=g.k 0;have u:=g.k 1;clear v x y;have v:=e.k 11;have x:=e.k 12;have y:=e.k 13;clear C E F;have C:=c.k 0;have E:=c.k 1;have F:=c.k 2;clear X Z ab;have X:=d.k 0;have Z:=d.k 1;have ab:=d.k 2;refine ax A (by exact⟨b,g.cz,e.cy 11 3,d.cy 0 3⟩) (λz=> ?_);clear A R)
   |(with_reducible show b5 _ _ _ _ _ _ _ _ _ _
     first
      |refine av (i:=15) rfl (λR aV=> ?_) ?_
      |refine av (i:=16) rfl (λR bh=> ?_) ?_
      |exact bm)
   |(with_reducible show bJ _ _ _ _ _ _ _ _ _
     first
      |refine ak [15] ?_
      |refine ak [16] ?_
      |refine aW (by decide +kernel) (aX ?_) _)
   |fail
  all_goals try clear z
  all_goals have n:=f.c3
  have bN:(1:Int)<=(cS:Int):=by have:=aS.out;omega
  have bM:(cS=0)=False:=by have:=aS.out;simp;omega
  go_wp2_with fail
  go_region
  clear t u v x y C E F X Z ab;revert m l g e c d f b n;refine bE (V.refl s).drew ?_;intro m l g e c d f b n
  generalize s.drew=a5 at*;go_wp2_with fail;refine wp_loop_rounds 2 ?_;rw[a9];have C:=c.k 0;have E:=c.k 1;have F:=c.k 2;have bT:=cA C;have bU:=cA E;have bV:=cA F;have bt:=ez n;go_upto_region 6 with fail
  clear bT bU bV bt;generalize o:ah a5 _=r at*;obtain⟨N,Q⟩:=aC o;clear o;have bH:=g.lt;have bQ:=e.lt;have b0:=c.lt;have b7:=d.lt;have b2:=f.lt;clear C E F;revert m l g e c d f b n;revert N;refine hV ?_;intro m l g e c d f b n
  have ar:=Q.c3;have aY:Y (aA (Qk k) 53 (r.alloc (ao #[J aM,D ay aG c1,D aD aJ d1] 53)).heap.size (r.alloc (ao #[J aM,D ay aG c1,D aD aJ d1] 53)) (D none 0 0) []):=G (aA.nil _ _ _ _);have a2:Y (Qk k (r.alloc (ao #[J aM,D ay aG c1,D aD aJ d1] 53)) (af #[J aM,D ay aG c1,D aD aJ d1]) q1):=G (l.up ((V.refl r).alloc _));have b4:=f.lt;have bL:w.heap.size<=r.heap.size:=b.size;go_wp2_with(at_builtin;refine fR (aR _) underlying44 d7 rfl _ _ rfl rfl aY.out (V.refl _) rfl (heap_alloc_new r _) a2.out (by simp) ?_;intro aP a8 p a4 aU q;clear a4 aU;replace q:=((V.refl r).alloc (ao #[J aM,D ay aG c1,D aD aJ d1] 53)).trans q;replace f:=f.up q;replace Q:=Q.up q;replace l:=l.up q;replace m:=m.up q;replace b:=b.trans q;clear q n ar;have n:=f.c3;have ar:=Q.c3)
  have bo:aP.ownBlock≠U bl:=λW=>by
   have:=(aA.lt p _ W).1;simp at this;omega
  clear n ar;replace p:aL k w a8 aP [q1]:=aA.weaken p (by simp;omega);have n:=f.c3;have bu:=f.free;obtain⟨aO,a1⟩:∃aO,Y (q1+h1=aO):=⟨_,G rfl⟩;have ha:=gc l.fr m.fr (by omega) (by omega);rw[a1.out]at ha;clear m l;go_wp2_with fail
  with_reducible refine(ha).mono ?_
  rintro W a7 ⟨bB,rfl,B,u31⟩;revert f b p n;refine bf u31 ?_;intro f b p n
  replace bu:=f.free;clear u31;obtain⟨bD,bF,rfl,B,aw⟩:=B;obtain⟨bz,bR,cy,rfl⟩:=B.shape;obtain⟨bA,bS,bK,rfl⟩:=aw.shape;go_wp2_with fail;generalize o:ag (ag (ag a7 _ _) _ _) _ _=bC at*;have j:=dh f o;clear o;replace p:=o8 (aR _) p j bo;replace B:=B.kw j.kw;replace aw:=aw.kw j.kw;replace f:=j.new;replace b:=b.bs j;clear j;clear n;have n:=f.c3;go_wp2_with fail;rw[a9];go_wp2_with fail;obtain⟨bx,bI,rfl⟩:=aL.form p;go_ret;exact⟨_,_,rfl,p,b⟩
 .skip;have b:V w (w.alloc (ao #[H I 1,H I 2] 130)):=(V.refl w).alloc _;have g:=Bx.new 130 w [H I 1,H I 2];have e:=aT.up b;have c:=c.up b;have d:=d.up b;have m:=bq.up b;have l:=bs.up b;clear aT bp bq br bs;show aj ae 92 #[az (U ⟨gx,0,none⟩),af #[H I 1,H I 2]] w (qn k q2 w);go_enter func92,ntmps92;go_upto_region 1 with fail
  generalize(w.alloc (ao #[H I 1,H I 2] 130))=T at*;have kw:IntKind.i64.wrap 1=1:=by decide
  have t:=g.k 0;have u:=g.k 1;have v:=e.k 11;have x:=e.k 12;have y:=e.k 13;have ai:=d.k 3;have an:=d.k 4;have aq:=d.k 5;have K:=c.k 3;have L:=c.k 4;have M:=c.k 5;revert b g e c d m l t u v x y;refine au (V.refl T).drew ?_;intro b g e c d m l t u v x y;revert ai an aq K L M;refine bO (V.refl T).drew ?_;intro ai an aq K L M
  refine aZ ?_;refine a3 (S:=λP=>V w P/\Cz P (w.heap.size) 0 [H I 1,H I 2]/\Cz P gx 11 [H I 1,D (U ⟨bv,0,none⟩) 2 cS,D (U ⟨gt,0,none⟩) 2 cT]/\Cz P gt 3 [J aN,D aB aI c2,D aE aK d2]) (by kernel_rfl) (by exact⟨b,g.cz,e.cy 11 3,d.cy 3 3⟩) (λz=> ?_);generalize T.drew=s at*;refine aa 0 ?_;refine aa 1 ?_;refine aa 2 ?_;refine aa 3 ?_;refine aa 4 ?_;refine aa 5 ?_;refine aa 6 ?_;refine aa 7 ?_;refine aa 8 ?_;refine aa 9 ?_;refine aa 10 ?_;refine aa 11 ?_;refine aa 12 ?_;refine aa 13 ?_;refine aa 14 ?_
  repeat' first
   |(have A:=aV;clear aV
     (try clear z)
     go_simp;have bG:=g.lt;have bP:=e.lt;have bZ:=c.lt;have b6:=d.lt;have b1:=b.size;generalize aQ:s.heap.size=bl at*;generalize o:ah s _=s at*;obtain⟨N,f⟩:=b3 o aQ;clear o aQ;revert b g e c d m l t u;refine bE N ?_;intro b g e c d m l t u
     clear v x y;have v:=e.k 11;have x:=e.k 12;have y:=e.k 13;clear K L M;have K:=c.k 3;have L:=c.k 4;have M:=c.k 5;clear ai an aq;have ai:=d.k 3;have an:=d.k 4;have aq:=d.k 5;clear N;refine ax A (by exact⟨b,g.cz,e.cy 11 3,d.cy 3 3⟩) (λz=> ?_);clear A R)
   |(have A:=bh;clear bh
     (try clear z)
     obtain⟨ba,bb,bd⟩:=f.c3;have bi:=f.free 0;have bj:=f.free 1;have bk:=f.free 2;go_simp;clear ba bb bd bi bj bk;generalize o:ag (ag (ag s _ _) _ _) _ _=s at*;have j:=dh f o;clear o;replace m:=m.kw j.kw;replace l:=l.kw j.kw;replace g:=g.bs j;replace e:=e.bs j;replace c:=c.bs j;replace d:=d.bs j;replace f:=j.new;replace b:=b.bs j;clear j;clear t u;have t:=g.k 0;have u:=g.k 1;clear v x y;have v:=e.k 11;have x:=e.k 12;have y:=e.k 13;clear K L M;have K:=c.k 3;have L:=c.k 4;have M:=c.k 5;clear ai an aq;have ai:=d.k 3;have an:=d.k 4;have aq:=d.k 5;refine ax A (by exact⟨b,g.cz,e.cy 11 3,d.cy 3 3⟩) (λz=> ?_);clear A R)
   |(with_reducible show b5 _ _ _ _ _ _ _ _ _ _
     first
      |refine av (i:=15) rfl (λR aV=> ?_) ?_
      |refine av (i:=16) rfl (λR bh=> ?_) ?_
      |exact bm)
   |(with_reducible show bJ _ _ _ _ _ _ _ _ _
     first
      |refine ak [15] ?_
      |refine ak [16] ?_
      |refine aW (by decide +kernel) (aX ?_) _)
   |fail
  all_goals try clear z
  all_goals have n:=f.c3
  have bN:(2:Int)<=(cS:Int):=by have:=aS.out;omega
  have bM:(cS=1)=False:=by have:=aS.out;simp;omega
  go_wp2_with fail
  go_region
  clear t u v x y K L M ai an aq;revert m l g e c d f b n;refine bE (V.refl s).drew ?_;intro m l g e c d f b n
  generalize s.drew=a5 at*;go_wp2_with fail;refine wp_loop_rounds 2 ?_;rw[a9];have K:=c.k 3;have L:=c.k 4;have M:=c.k 5;have bW:=cA K;have bX:=cA L;have bY:=cA M;have bt:=ez n;go_upto_region 6 with fail
  clear bW bX bY bt;generalize o:ah a5 _=r at*;obtain⟨N,Q⟩:=aC o;clear o;have bH:=g.lt;have bQ:=e.lt;have b0:=c.lt;have b7:=d.lt;have b2:=f.lt;clear K L M;revert m l g e c d f b n;revert N;refine hV ?_;intro m l g e c d f b n
  have ar:=Q.c3;have aY:Y (aA (Qk k) 53 (r.alloc (ao #[J aN,D aB aI c2,D aE aK d2] 53)).heap.size (r.alloc (ao #[J aN,D aB aI c2,D aE aK d2] 53)) (D none 0 0) []):=G (aA.nil _ _ _ _);have a2:Y (Qk k (r.alloc (ao #[J aN,D aB aI c2,D aE aK d2] 53)) (af #[J aN,D aB aI c2,D aE aK d2]) q2):=G (l.up ((V.refl r).alloc _));have b4:=f.lt;have bL:w.heap.size<=r.heap.size:=b.size;go_wp2_with(at_builtin;refine fR (aR _) underlying44 d7 rfl _ _ rfl rfl aY.out (V.refl _) rfl (heap_alloc_new r _) a2.out (by simp) ?_;intro aP a8 p a4 aU q;clear a4 aU;replace q:=((V.refl r).alloc (ao #[J aN,D aB aI c2,D aE aK d2] 53)).trans q;replace f:=f.up q;replace Q:=Q.up q;replace l:=l.up q;replace m:=m.up q;replace b:=b.trans q;clear q n ar;have n:=f.c3;have ar:=Q.c3)
  have bo:aP.ownBlock≠U bl:=λW=>by
   have:=(aA.lt p _ W).1;simp at this;omega
  clear n ar;replace p:aL k w a8 aP [q2]:=aA.weaken p (by simp;omega);have n:=f.c3;have bu:=f.free;obtain⟨aO,a1⟩:∃aO,Y (q2+h2=aO):=⟨_,G rfl⟩;have ha:=gc l.fr m.fr (by omega) (by omega);rw[a1.out]at ha;clear m l;go_wp2_with fail
  with_reducible refine(ha).mono ?_
  rintro W a7 ⟨bB,rfl,B,u31⟩;revert f b p n;refine bf u31 ?_;intro f b p n
  replace bu:=f.free;clear u31;obtain⟨bD,bF,rfl,B,aw⟩:=B;obtain⟨bz,bR,cy,rfl⟩:=B.shape;obtain⟨bA,bS,bK,rfl⟩:=aw.shape;go_wp2_with fail;generalize o:ag (ag (ag a7 _ _) _ _) _ _=bC at*;have j:=dh f o;clear o;replace p:=o8 (aR _) p j bo;replace B:=B.kw j.kw;replace aw:=aw.kw j.kw;replace f:=j.new;replace b:=b.bs j;clear j;clear n;have n:=f.c3;go_wp2_with fail;rw[a9];go_wp2_with fail;obtain⟨bx,bI,rfl⟩:=aL.form p;go_ret;exact⟨_,_,rfl,p,b⟩
attribute [local go_sem] Oper.semAt_some
def Gf (y:Rat)(f w:O)(e:aO)(a:O):Prop:= ∃(d:Nat) (b:Option am) (c:Nat),e=aw (aY #[D (U ⟨d,0,none⟩) 1 1,af #[H I 0,H I 0,H I 0,H I 0]])/\Bx 44 a d [D b 1 c]/\aL 130 f a (D b 1 c) [y]/\V w a
theorem Gg {n:ay}{nm:ByteArray}(p:c7 kp w [D TA 1 aH,D TB 1 cB,H I 1,H I 0,al nm,D SC 2 cc,D SA 2 ca,D SB 2 cb,D SE 2 ce,D PA 0 cp,H I 200] (Z.qb n (aE z) (aE o) (aE b) nm))(s:Y (eD (Z.qb n (aE z) (aE o) (aE b) nm)))(r:Y ((Z.qb n (aE z) (aE o) (aE b) nm).right=true))(j:aF 130 w (D AS 2 cS) [h1,h2])(u:Y (0<h1))(v:Y (0<h2))(k:aF 130 w (D AT 2 cT) [t1,t2])(l:cM n0 130 wy w (D AY 2 cY) [U [y1],U [y2]])(ha:a<2)(e:[[y1],[y2]].getD a []=[y])(t:V wb w):
 aj ae 91 #[af #[D TA 1 aH,D TB 1 cB,H I 1,H I 0,al nm,D SC 2 cc,D SA 2 ca,D SB 2 cb,D SE 2 ce,D PA 0 cp,H I 200],af #[H I 1,D AS 2 cS,D AT 2 cT,D AY 2 cY],af #[H I (a:Int),H I ((a:Int)+1)]] w (Gf y wb w):=
 Calls.mono (Fo (q:=(Z.qb n (aE z) (aE o) (aE b) nm)) p s r j u v k l (G (by rw[e];rfl)) ha (by decide)) λx B ⟨g,A,m,h1,h2,i⟩=>by
  rw[e]at h2;obtain⟨c,d,(f:_=D c 1 d)⟩:=h2.form;subst f;exact⟨g,c,d,m,h1,h2.weaken t,i⟩
def hS (w:O)(f gg:Nat)(xs:List W)(y:Rat)(a:O):Prop:=Gb f w a/\ ∃(b c:Option am) (e d:Nat),Bx 126 a f (xs++[D b 1 e,D c 0 d,az (U ⟨gg,0,none⟩)])/\aF 130 a (D b 1 e) [y]/\(∀w2,aU 2 w2 (D c 0 d) [])
theorem hS.kept (h:hS w gx gg xs y aD)(a:aD.grownBy fI row)(h1:∀r,row=U r->w.heap.size<=r)(h2:∀r,row=U r-> ∃o:Obj,aD.heap[r]? =U o/\o.isCells=false):hS w gx gg xs y fI:=by
 obtain⟨hb,b,c,e,d,i,f,g⟩:=h;exact⟨(Gk.gr ⟨hb⟩ a (v7 a h2) h1).gb,b,c,e,d,v8 i a h2,F8 f a h2,g⟩
theorem Gh (b:Bs T g w ab old new):KeepsOthers w ab:=KeepsOthers.of_grownBy b.gr (λe o c a=>by
 cases c;have d:w.heap[g]? =_:=b.old;rw[d]at a;cases a;rfl)
theorem hS.bs {w aD fI:O}{gx gg r:Nat}{xs old new:List W}{y:Rat}{T:an}(h:hS w gx gg xs y aD)(b:Bs T r aD fI old new)(l:w.heap.size<=r)(k:gx≠r)(f:53≠T:=by decide):hS w gx gg xs y fI:=by
 obtain⟨hb,a,c,e,d,j,g,i⟩:=h;exact⟨(Gk.eF ⟨hb⟩ b l).gb,a,c,e,d,j.bs b k,ef (aR 130) g b f,i⟩
theorem v9 {n:ay}{nm:ByteArray}
 (cr:c7 kp w [D TA 1 aH,D TB 1 cB,H I 1,H I 0,al nm,D SC 2 cc,D SA 2 ca,D SB 2 cb,D SE 2 ce,D PA 0 cp,H I 200] (Z.qb n (aE z) (aE o) (aE b) nm))(a2:Y (eD (Z.qb n (aE z) (aE o) (aE b) nm)))(ct:Y ((Z.qb n (aE z) (aE o) (aE b) nm).right=true))(dh:Y (Z.c9 [⟨3,0,0,n⟩] [0] 1 0=true))(cv:dG w0 w (D SC 2 cc) (D SA 2 ca) (D SB 2 cb) (D SE 2 ce) z o b)(cg:aF 130 w (D AS 2 cS) [h1,h2])(ds:Y (0<h1))(dt:Y (0<h2))(ch:aF 130 w (D AT 2 cT) [t1,t2])(ci:cM n0 130 wy w (D AY 2 cY) [U [y1],U [y2]])(ck:aF 130 w (D CW 1 cw) [x])(dj:Y (∀w2,aU 2 w2 (D SP 0 fU) []))
 (bU:Bx 126 w gx [D TA 1 aH,D TB 1 cB,H I 1,H I 0,al nm,D SC 2 cc,D SA 2 ca,D SB 2 cb,D SE 2 ce,D PA 0 cp,H I 200,H I 1,D AS 2 cS,D AT 2 cT,D AY 2 cY,D CW 1 cw,D SP 0 fU,az (U ⟨gg,0,none⟩)])(ha:a<2)(db:[h1,h2].getD a 0=h0)(dk:[t1,t2].getD a 0=t)(dn:[[y1],[y2]].getD a []=[y])
 (da:Y ((Z.step (Z.qb n (aE z) (aE o) (aE b) nm).pr t h0 [y]).1=Z.aG/\(Z.step (Z.qb n (aE z) (aE o) (aE b) nm).pr t h0 [y]).2.ys=[[u0],[u1]]))(di:Y (∀t,Z.run (Ga.a5 200) t [u0] [] [⟨3,0,0,n⟩] []=(Z.aG,[u0])/\Z.run (Ga.a5 200) t [u1] [] [⟨3,0,0,n⟩] []=(Z.aG,[u1])))
 (dd:Y (h0*(b*x)=k1/\k1≠0/\(Z.bits k1:Int)<=Ga.a5 200/\E.Lq k1 130/\E.Lq (x+k1) 130))(dc:Y (h0*(b*x+o*k1)=k0/\k0≠0/\(Z.bits k0:Int)<=Ga.a5 200/\E.Lq k0 130/\E.Lq (x+k1+k0) 130))(dp:Y ((Z.bits (x+k1+k0):Int)<=Ga.a5 200/\E.Lq x 130))(de:kp<=1000):
 aj ae 51 #[az (U ⟨gx,0,none⟩),af #[H I (a:Int),H I ((a:Int)+1)]] w (λe an=>e=aw (af #[H I 0,H I 0,H I 0,H I 0])/\hS w gx gg [D TA 1 aH,D TB 1 cB,H I 1,H I 0,al nm,D SC 2 cc,D SA 2 ca,D SB 2 cb,D SE 2 ce,D PA 0 cp,H I 200,H I 1,D AS 2 cS,D AT 2 cT,D AY 2 cY] (x+k1+k0) an):=by
 have bv:=G cr;have b1:=G cv;have bf:=G cg;have bx:=G ch;have b4:=G ci;have br:=G ck;have ec:=bU.lt;have bX:=G bU;clear cr cv cg ch ci ck bU;refine(callsIn_wide (n:=6)).1 ?_;refine callsIn_of_wp_marks func51 rfl trivial ?_ rfl;simp only[ntmps51,List.size_toArray,List.length_cons,List.length_nil,Nat.reduceAdd,Nat.reduceSub,Array.replicate_succ,Array.replicate_zero,List.push_toArray,List.append_toArray,List.nil_append,List.cons_append];refine wpIn_wide.2 ?_;go_upto_region 1 with fail
 generalize C:ah (ah (ah w _) _) _=T at*;obtain⟨c,f,d,aB⟩:=dm C;clear C;have s:=f.c1;have u:=d.c2;have bk:=aB.c4;have cD:=aB.free;have aM:=G c;have bt:=G (bX.out.up c);have aK:=G f;have aT:=G d;have b0:=G aB;clear c f d aB s u bk cD bX
 go_cut [5,6]from 10 to 22 (λdv dw bd=> ∃(a1 a9 ba:Nat) (bo:Option am) (bK:Nat),dv=az (U ⟨a1,0,none⟩)/\dw=az (U ⟨a9,0,none⟩)/\(T.heap.size<=a1/\T.heap.size<=a9/\a1≠a9)/\Bx 45 bd a1 [D (U ⟨ba,0,none⟩) 1 1]/\Bx 63 bd a9 [H I 0,H I 0,H I 0,H I 0]/\Bx 44 bd ba [D bo 1 bK]/\aL 130 T bd (D bo 1 bK) [y]/\V T bd)
 case first=>
  have c:=V.refl T;have L:=bt.out;have f:=aK.out;have d:=aT.out;have s:=f.c1;have u:=d.c2;have ar:=L.lu;revert c L f d ar;refine b8 (V.refl T).drew ?_;intro c L f d ar;revert s u;refine cR (V.refl T).drew ?_;intro s u
  refine aZ ?_;refine a3 (S:=λan=>V T an/\Cz an gx 0 [D TA 1 aH,D TB 1 cB,H I 1,H I 0,al nm,D SC 2 cc,D SA 2 ca,D SB 2 cb,D SE 2 ce,D PA 0 cp,H I 200,H I 1,D AS 2 cS,D AT 2 cT,D AY 2 cY]/\Cz an (w.heap.size) 0 [az (U ⟨gx,0,none⟩)]/\Cz an (w.heap.size+1) 0 [H I (a:Int),H I ((a:Int)+1)]) (by kernel_rfl) (by exact⟨c,L.cy 0 15,f.cz,d.cz⟩) (λN=> ?_);generalize T.drew=M at*;refine aa 0 ?_;refine aa 1 ?_;refine aa 2 ?_;refine aa 3 ?_;refine aa 4 ?_;refine aa 5 ?_;refine aa 6 ?_;refine aa 7 ?_;refine aa 8 ?_
  repeat' first
   |(have K:=bB;clear bB
     (try clear N)
     go_simp;go_at_call 91
     with_reducible refine(Gg (bv.out.up (aM.out.trans c)) a2 ct (bf.out.up (aM.out.trans c)) ds dt (bx.out.up (aM.out.trans c)) (b4.out.up (aM.out.trans c)) ha dn c).mono ?_
     rintro e M ⟨c6,dD,dW,rfl,j,Q,bl⟩;revert c L f d ar;refine b8 bl ?_;intro c L f d ar
     try(replace g:=g.up bl)
     try(replace l:=l.up bl)
     clear s;have s:=f.c1;clear u;have u:=d.c2;clear bl
     try go_wp2_with fail
     refine ax K (by exact⟨c,L.cy 0 15,f.cz,d.cz⟩) (λN=> ?_);clear K X)
   |(have K:=bh;clear bh
     (try clear N)
     go_simp;have ej:=L.lt;have dP:=f.lt;have dT:=d.lt;have dz:=c.size
     try(have cf:=l.lt)
     generalize aA:M.heap.size=c5 at*;generalize C:ah M _=M at*;obtain⟨R,g⟩:=b3 C aA;clear C aA
     try(replace Q:=Q.up R)
     try(replace j:=j.up R)
     revert c L f d ar;refine b8 R ?_;intro c L f d ar
     try(replace l:=l.up R)
     clear s;have s:=f.c1;clear u;have u:=d.c2;clear R;refine ax K (by exact⟨c,L.cy 0 15,f.cz,d.cz⟩) (λN=> ?_);clear K X)
   |(have K:=bi;clear bi
     (try clear N)
     go_simp;have ei:=L.lt;have dL:=f.lt;have dQ:=d.lt;have c0:=c.size
     try(have cH:=g.lt)
     generalize aA:M.heap.size=c3 at*;generalize C:ah M _=M at*;obtain⟨R,l⟩:=b3 C aA;clear C aA
     try(replace Q:=Q.up R)
     try(replace j:=j.up R)
     revert c L f d ar;refine b8 R ?_;intro c L f d ar
     try(replace g:=g.up R)
     clear s;have s:=f.c1;clear u;have u:=d.c2;clear R;refine ax K (by exact⟨c,L.cy 0 15,f.cz,d.cz⟩) (λN=> ?_);clear K X)
   |(have K:=bq;clear bq
     (try clear N)
     have a7:=g.k 0;have a8:=g.free 0;go_simp;clear a7 a8;generalize C:ag M _ _=M at*;have m:=eJ g C;clear C
     try(replace Q:=dN Q m (by decide))
     try(replace j:=j.bs m (cL j g (by decide)))
     replace L:=L.bs m;replace f:=f.bs m;replace d:=d.bs m;replace l:=l.bs m (by first|omega|(have:=cf;omega)|(have:=cH;omega));replace g:=m.new;replace c:=c.bs m;clear m;clear ar;have ar:=L.lu;clear s;have s:=f.c1;clear u;have u:=d.c2;refine ax K (by exact⟨c,L.cy 0 15,f.cz,d.cz⟩) (λN=> ?_);clear K X)
   |(have K:=cn;clear cn
     (try clear N)
     have a7:=l.k 0;have bL:=l.k 1;have bO:=l.k 2;have bP:=l.k 3;have a8:=l.free 0;have bQ:=l.free 1;have bR:=l.free 2;have bS:=l.free 3;go_simp;clear a7 bL bO bP a8 bQ bR bS;generalize C:ag (ag (ag (ag M _ _) _ _) _ _) _ _=M at*;have m:=bp l C;clear C
     try(replace Q:=dN Q m (by decide))
     try(replace j:=j.bs m (cL j l (by decide)))
     replace L:=L.bs m;replace f:=f.bs m;replace d:=d.bs m;replace g:=g.bs m (by first|omega|(have:=cH;omega)|(have:=cf;omega));replace l:=m.new;replace c:=c.bs m;clear m;clear ar;have ar:=L.lu;clear s;have s:=f.c1;clear u;have u:=d.c2;refine ax K (by exact⟨c,L.cy 0 15,f.cz,d.cz⟩) (λN=> ?_);clear K X)
   |(with_reducible show b5 _ _ _ _ _ _ _ _ _ _
     first
      |refine av (i:=9) rfl (λX bB=> ?_) ?_
      |refine av (i:=13) rfl (λX bh=> ?_) ?_
      |refine av (i:=14) rfl (λX bi=> ?_) ?_
      |refine av (i:=15) rfl (λX bq=> ?_) ?_
      |refine av (i:=16) rfl (λX cn=> ?_) ?_
      |exact bm)
   |(with_reducible show bJ _ _ _ _ _ _ _ _ _
     first
      |refine ak [9,13,14] ?_
      |refine ak [9,13] ?_
      |refine ak [9,14] ?_
      |refine ak [13,14] ?_
      |refine ak [9] ?_
      |refine ak [13] ?_
      |refine ak [14] ?_
      |refine ak [15] ?_
      |refine ak [16] ?_
      |refine aa 10 ?_
      |refine aa 11 ?_
      |refine aa 12 ?_
      |refine aW (by decide +kernel) (aX ?_) _)
   |fail
  all_goals try clear N
  all_goals have aJ:=g.c1
  all_goals have aY:=l.c4
  all_goals
   have df:=dz;have dg:=c0;go_wp2_with fail
   go_meet
   exact⟨c5,c3,c6,_,_,rfl,rfl,⟨df,dg,cL g l (by decide)⟩,g,l,j,Q,c⟩
 case rest=>
  obtain⟨a1,a9,ba,cI,cX,rfl,rfl,⟨d8,d9,ed⟩,g,l,j,Q,a5⟩:=hcut;have c:=a5;have v:=bt.out.up a5;have f:=aK.out.up a5;have d:=aT.out.up a5;have dF:=G v;clear a5 bt aK aT;have s:=f.c1;have u:=d.c2;have aJ:=g.c1;have aY:=l.c4;have aS:=j.c1;go_wp2_with fail;have co:=Ge v ((bf.out.up aM.out).up c) ((bx.out.up aM.out).up c) ha (by decide);rw[dk]at co
  ((with_reducible refine co.mono ?_))
  rintro e b9 ⟨dC,cW,rfl,tr,bb⟩;replace tr:=aL.weaken tr c;revert g l j Q c v f d s u;refine bw bb ?_;intro g l j Q c v f d s u
  replace aJ:=g.c1;replace aY:=l.c4;replace aS:=j.c1;clear bb;have kw:IntKind.i64.wrap ((a:Int)+1-(a:Int))=1:=by rw[show(a:Int)+1-(a:Int)=1 by omega];rfl
  have cU:=cA s;have cV:=ez u;have dA:=g.d1;have c1:=l.d4;have dB:=j.d1;go_wp2_with fail;clear cU cV dA c1 dB;generalize C:ah b9 _=dJ at*;obtain⟨R,A⟩:=aC C;clear C;have dO:=f.lt;have dS:=d.lt;have eu:=g.lt;have dX:=l.lt;have ew:=j.lt;revert tr g l j Q c v f d s u;refine bC R ?_;intro tr g l j Q c v f d s u
  replace aJ:=g.c1;replace aY:=l.c4;replace aS:=j.c1;clear R;have a4:=A.c1
  ((with_reducible refine(Gc _).mono ?_))
  rintro e bH ⟨c4,rfl,cz,bb⟩;revert A tr g l j Q c v f d s u;refine au bb ?_;intro A tr g l j Q c v f d s u
  replace aJ:=g.c1;replace aY:=l.c4;replace aS:=j.c1;replace a4:=A.c1;clear bb;go_wp2_with fail;have cN:=G c;have aV:=G (aM.out.trans c);obtain⟨gr,tz,cP,cQ,dq,dx,dr,dy,ep,rfl,_,q,qt,_⟩:=nB tr.a;have bZ:=G qt;have b6:=G Q;have bY:=G cz;have aK:=G f;have aT:=G d;have bE:=G g;have bs:=G l;have bF:=G j;have bz:=G A;have bA:=G q;have bu:=G v;clear c f d g l j A q v Q tr cz qt;refine(wpIn_wide (n:=6)).1 ?_;refine wpIn_rangeFunc_ownF (F:=Fence.wide) rfl (by decide) (gf:=130) (lb:=#[az (U ⟨c4,0,none⟩)]) rfl trivial (enters_of func130 (by kernel_rfl) rfl) (Gd bY.out) walksK_t walksK_b (Below.refl _ _) (λ_=>rfl) (λpre P=>(pre=[]/\V bH P)\/(pre≠[]/\hS bH gx gg [D TA 1 aH,D TB 1 cB,H I 1,H I 0,al nm,D SC 2 cc,D SA 2 ca,D SB 2 cb,D SE 2 ce,D PA 0 cp,H I 200,H I 1,D AS 2 cS,D AT 2 cT,D AY 2 cY] (x+k1+k0) P)) (λ_ _ _=>False) ?hI (λ_ _ _ _ _ a2 _ _=>a2) (.inl ⟨rfl,V.refl _⟩) ?dK ?assign ?body ?done ?stop
  case assign=>
   intro cC x T X K
   gi_wp2
   exact K
  case hI=>
   intro el bo B ek a2 aA bV;rcases a2 with⟨e,ab⟩|⟨e,ab⟩
   .exact .inl ⟨e,ab.grown aA (λk e=>(bV k e).1)⟩
   .exact .inr ⟨e,ab.kept aA (λk e=>(bV k e).1) (λk e=>(bV k e).2)⟩
  case stop=>
   rintro ai bK pre T bT _ ab _;exact ab.elim
  case done=>
   rintro ai es P bT rfl hI bj;rcases hI with⟨e,_⟩|⟨_,hw⟩
   .cases e
   have ee:w.heap.size<=T.heap.size:=aM.out.size;have aB:=Gb.bx hw.1 (b0.out.up cN.out) (by omega);have l:=Gb.bx hw.1 bs.out (by omega);have bD:hS w gx gg [D TA 1 aH,D TB 1 cB,H I 1,H I 0,al nm,D SC 2 cc,D SA 2 ca,D SB 2 cb,D SE 2 ce,D PA 0 cp,H I 200,H I 1,D AS 2 cS,D AT 2 cT,D AY 2 cY] (x+k1+k0) P:=⟨Gb.trans (Gb.up aV.out) hw.1,hw.2⟩;have c8:w.heap.size<=ai:=aQ aV.out.size bT;have eb:=b0.out.lt;obtain⟨cG,cZ,c⟩:=fk (n:=0) (w:=P) (bn _);clear hw aK aT bE bs bF bz bA bu bY bZ b6 bv b1 bf bx b4 br bT;have bk:=aB.c4;have cD:=aB.free;have aY:=l.c4;go_wp2_with fail;generalize C:ag (ag (ag (ag P _ _) _ _) _ _) _ _=bG at*;have m:=bp aB C;clear C;replace bD:=bD.bs m (by omega) (by omega) (by decide);replace bj:=(Gh m).same ai _ bj rfl;replace l:=l.bs m;replace aB:=m.new;replace c:=c.bs m;clear m;clear bk;have bk:=aB.c4;replace aY:=l.c4;go_wp2_with fail;refine⟨by simp,.inl ⟨ai,_,rfl,run_takeDeferred bj,?_⟩⟩
   have cu:∀r,U ai=U r-> ∃bW:Obj,bG.heap[r]? =U bW/\bW.isCells=false:=λr e=>by
    cases e;exact⟨_,bj,rfl⟩
   have du:=v8 aB (grownBy_putObj' bG ai (.deferred none)) cu;refine⟨_,cl rfl rfl bM bN du rfl,rfl,bD.kept (grownBy_putObj' bG ai (.deferred none)) (λr e=> ?_) cu⟩;cases e;exact c8
  case body=>
   rintro cC pre ⟨er,rfl⟩ P hI cm
   obtain rfl:pre=[]:=by
    cases pre with
    |nil=>rfl
    |cons p cC=>simp at cm
   have aG:V bH P:=by
    rcases hI with⟨_,ab⟩|⟨ab,_⟩
    .exact ab
    .exact absurd rfl ab
   clear hI cm;obtain⟨cG,cZ,cF⟩:=fk (n:=0) (w:=P) (bn _);have cO:=G (aV.out.trans aG);have b2:=G aG;have f:=aK.out.up aG;have d:=aT.out.up aG;have g:=bE.out.up aG;have j:=bF.out.up aG;have A:=bz.out.up aG;have q:=bA.out.up aG;have v:=bu.out.up aG;have cJ:=G v;have aI:=br.out.up cO.out;have aq:Gk gx P P:=⟨Gb.refl gx P⟩;have c:=cF;have ao:=b2.out;have d7:=v.lt;have eh:IntKind.i64.wrap (a:Int)=(a:Int):=IntWalk.i64_in _ (by omega);have ea:=aK.out.lt;clear cF aG aK aT bE bF bz bA bu bs;refine wpIn_block ?_;refine wpIn_seq_k λdH bB=> ?_
   dsimp only;have s:=f.c1;have u:=d.c2;have aJ:=g.c1;have aS:=j.c1;have a4:=A.c1;have aN:=q.k 0;have aO:=q.k 1;have aP:=q.k 2;clear aN aO aP;revert f d g j A q v aI aq c ao s;refine au (V.refl P).drew ?_;intro f d g j A q v aI aq c ao s;revert u;refine cj (V.refl P).drew ?_;intro u
   replace aJ:=g.c1;replace aS:=j.c1;replace a4:=A.c1;have aN:=q.k 0;have aO:=q.k 1;have aP:=q.k 2;refine F7 (S:=λan=>V cG an/\Cz an (w.heap.size) 0 [az (U ⟨gx,0,none⟩)]/\Cz an (w.heap.size+1) 0 [H I (a:Int),H I ((a:Int)+1)]/\Cz an a1 0 [D (U ⟨ba,0,none⟩) 1 1]/\Cz an ba 0 [D cI 1 cX]/\Cz an (b9.heap.size) 0 [D (U ⟨gr,0,none⟩) 1 cW]/\Cz an gr 0 [J tz,D cP dq dx,D cQ dr dy]) (by kernel_rfl) (λ_ _ ab=>ab) (by kernel_rfl) (by exact⟨c,f.cz,d.cz,g.cz,j.cz,A.cz,q.cy 0 3⟩) (λN=> ?_);generalize P.drew=M at*;refine aa 0 ?_;refine aa 1 ?_;refine aa 2 ?_;refine aa 3 ?_;refine aa 4 ?_;refine aa 5 ?_;refine aa 6 ?_;refine aa 7 ?_;refine aa 8 ?_;refine aa 9 ?_;refine aa 10 ?_;refine aa 11 ?_;refine aa 12 ?_
   repeat' first
    |(have K:=bh;clear bh
      (try clear N)
      go_simp;go_at_call 94;have cx:=F5 (gg:=gg) (bv.out.up (aV.out.trans ao)) a2 ct dh (b1.out.up (aV.out.trans ao)) ((bZ.out.up ao).fr.mono (by decide)) (bf.out.up (aV.out.trans ao)) (b6.out.fs.up ao) (br.out.up (aV.out.trans ao)) dj v ha db (by decide) da di dd dc dp de (by decide)
      ((with_reducible refine cx.mono ?_))
      rintro e bI ⟨rfl,aD,dE,dI,dV,dU,cy,cd,cE⟩;replace f:=aD.bx f (cL f v (by decide));replace d:=aD.bx d (cL d v (by decide));replace g:=aD.bx g (cL g v (by decide));replace j:=aD.bx j (cL j v (by decide));replace A:=aD.bx A (cL A v (by decide));replace q:=aD.bx q (cL q v (by decide))
      (try(replace W:=aD.bx W (cL W v (by decide))))
      replace c:=aD.du c (by omega);replace aq:Gk gx P bI:=⟨Gb.trans aq.gb aD⟩;replace v:=cy;replace aI:=cd;replace ao:=V.refl bI;have cK:=G cE;clear cE cy cd cx aD;obtain⟨M,c9⟩:∃T,T=bI:=⟨_,rfl⟩;subst c9;clear s;have s:=f.c1;clear u;have u:=d.c2;replace aJ:=g.c1;replace aS:=j.c1;replace a4:=A.c1;clear aN aO aP;have aN:=q.k 0;have aO:=q.k 1;have aP:=q.k 2;refine ax K (by exact⟨c,f.cz,d.cz,g.cz,j.cz,A.cz,q.cy 0 3⟩) (λN=> ?_);clear K X)
    |(have K:=bi;clear bi
      (try clear N)
      go_simp;have dM:=f.lt;have dR:=d.lt;have et:=g.lt;have ev:=j.lt;have en:=A.lt;have eo:=q.lt;have dY:=c.size;have c2:=aq.gb.1.size;generalize aA:M.heap.size=d0 at*;generalize C:ah M _=M at*;obtain⟨R,W⟩:=b3 C aA;clear C aA;refine eA R v aI aq ao f d g j A q c s ?_;clear v aI aq ao f d g j A q c s;intro v aI aq ao f d g j A q c s
      clear u;have u:=d.c2;replace aJ:=g.c1;replace aS:=j.c1;replace a4:=A.c1;clear aN aO aP;have aN:=q.k 0;have aO:=q.k 1;have aP:=q.k 2;clear R;refine ax K (by exact⟨c,f.cz,d.cz,g.cz,j.cz,A.cz,q.cy 0 3⟩) (λN=> ?_);clear K X)
    |(have K:=bq;clear bq
      (try clear N)
      have a7:=W.k 0;have bL:=W.k 1;have bO:=W.k 2;have bP:=W.k 3;have a8:=W.free 0;have bQ:=W.free 1;have bR:=W.free 2;have bS:=W.free 3;go_simp;clear a7 bL bO bP a8 bQ bR bS;generalize C:ag (ag (ag (ag M _ _) _ _) _ _) _ _=M at*;have m:=bp W C;clear C;replace v:=v.bs m (by omega);replace aI:=ef (aR _) aI m (by decide);replace aq:=aq.eF m c2;replace ao:=c;replace f:=f.bs m;replace d:=d.bs m;replace g:=g.bs m;replace j:=j.bs m;replace A:=A.bs m;replace q:=q.bs m;replace W:=m.new;replace c:=c.bs m;clear m;clear s;have s:=f.c1;clear u;have u:=d.c2;replace aJ:=g.c1;replace aS:=j.c1;replace a4:=A.c1;clear aN aO aP;have aN:=q.k 0;have aO:=q.k 1;have aP:=q.k 2;refine ax K (by exact⟨c,f.cz,d.cz,g.cz,j.cz,A.cz,q.cy 0 3⟩) (λN=> ?_);clear K X)
    |(with_reducible show b5 _ _ _ _ _ _ _ _ _ _
      first
       |refine av (i:=13) rfl (λX bh=> ?_) ?_
       |refine av (i:=14) rfl (λX bi=> ?_) ?_
       |refine av (i:=15) rfl (λX bq=> ?_) ?_
       |exact bm)
    |(with_reducible show bJ _ _ _ _ _ _ _ _ _
      first
       |refine ak [13,14] ?_
       |refine ak [13] ?_
       |refine ak [14] ?_
       |refine ak [15] ?_
       |refine ak [13] ?_
       |refine aW (by decide +kernel) (aX ?_) _)
    |fail
   all_goals try clear N
   all_goals try(have dZ:=W.c4)
   all_goals
    refine bB _ _ ?_
    have b7:KeepsOthers P M:=KeepsOthers.of_grownBy aq.gb.1 (λeg bW e ab=>by
     cases e;have h2:P.heap[gx]? =_:=cJ.out;rw[h2]at ab;cases ab;rfl)
    clear bB
    gi_wp2
    exact⟨b7,b7.walks,.inr ⟨by simp,Gb.trans (Gb.up b2.out) aq.gb,_,_,_,_,v,aI,cK.out⟩⟩
theorem wd (q:Fq z o b):eD (Z.qb (false,[],[]) (aE z) (aE o) (aE b) ⟨#[104,101,117,110]⟩) where
 bd:=λi a=>by rw[List.mem_singleton.1 a];exact⟨by decide,by decide⟩
 lc:=(by decide:1<=1000000)
 lo:=(by decide:1<=1000000)
 ar:=(by decide: -9223372036854775808<=(1:Int)/\(1:Int)<=9223372036854775807)
 par:=(by decide: -9223372036854775808<=(0:Int)/\(0:Int)<=9223372036854775807)
 iq:=(vu q).out
 r9:=(by decide:0<=1000)
 bits:=(by decide: -9223372036854775808<=(200:Int)/\(200:Int)<=9223372036854775807)
theorem we:Z.c9 [⟨3,0,0,(false,[],[])⟩] [0] 1 0=true:=by decide +kernel
theorem wg (q:Fq z o b):(Z.qb (false,[],[]) (aE z) (aE o) (aE b) ⟨#[104,101,117,110]⟩).right=true:=by
 show(Z.c9 [⟨3,0,0,(false,[],[])⟩] [0] 1 0&&(Z.dj ⟨#[104,101,117,110]⟩ [aE z,aE o] [[],[aE o]] [aE b,aE b] [aE o,aE z]&&decide (((0:Nat):Int)=0)))=true;rw[we,vr q];rfl
def Gi (h1 h2 t1 t2 y1 y2:Rat)(w:O)(e:aO)(a:O):Prop:= ∃(b c d:Option am) (f g i j:Nat) (k:O),e=aw (af #[H I 1,D b 2 f,D c 2 g,D d 2 i])/\aF 130 a (D b 2 f) [h1,h2]/\aF 130 a (D c 2 g) [t1,t2]/\cM j 130 k a (D d 2 i) [U [y1],U [y2]]/\V w a
theorem Gj {x:List W}(h:ew 100000 130 w x Z.g3.tries Z.g3.t Z.g3.y):aj ae 48 #[af x.toArray,H I 1] w (Gi (7/16) (9/16) 0 (7/16) 1 (785/512) w):=by
 obtain⟨F,J,y,⟨j,k,l⟩,m,n,o⟩:=Z.FO;have b:=Z.vU;refine(Fi h (G ⟨b.many,λr a=>by rw[b.lens r a];exact b.ar.2⟩) b.ar.2 (by decide) (by decide) (G y)).mono λB K a=> ?_
 obtain⟨L,v,⟨f,g,i,s,t,u,A,rfl,c,d,e⟩,z⟩:=a;rw[k,n]at c;rw[j,m]at d;rw[l,o]at e;have lq:∀p q:Rat,E.Lq p 130->E.Lq q 130-> ∀r∈[p,q],E.Lq r 130:=λp q C D r a=>by rcases kU a with rfl|rfl<;>assumption
 exact⟨f,g,i,s,t,u,A,w,v,aF.re c (lq _ _ (ey (by decide +kernel)) (ey (by decide +kernel))),aF.re d (lq _ _ (ey (by decide +kernel)) (ey (by decide +kernel))),e,z⟩
theorem gv (h:aF k w v qs)(b:Bs T g w ab old new)(a:53≠T):aF k ab v qs:=ef (aR k) h b a
theorem qo (a b d:α):[a,b].getD 1 d=b:=rfl
theorem qp (a b d:α):[a,b].getD 0 d=a:=rfl
def Gl (w:O)(e:aO)(c:O):Prop:= ∃(a f:Option am) (b g:Nat) (d:Rat),e=aw (aY #[af #[D a 1 b,D f 0 g],af #[H I 0,H I 0,H I 0,H I 0]])/\aF 130 c (D a 1 b) [d]/\0<d/\V w c
theorem Gm {x:List W}(q:Fq z o b)(bU:c7 kp w [D TA 1 aH,D TB 1 cB,H I 1,H I 0,al ⟨#[104,101,117,110]⟩,D SC 2 cc,D SA 2 ca,D SB 2 cb,D SE 2 ce,D PA 0 cp,H I 200] (Z.qb (false,[],[]) (aE z) (aE o) (aE b) ⟨#[104,101,117,110]⟩))(bX:dG w0 w (D SC 2 cc) (D SA 2 ca) (D SB 2 cb) (D SE 2 ce) z o b)(bj:ew 100000 130 w x Z.g3.tries Z.g3.t Z.g3.y)(hw:aU 2 w (D CW 1 cw) [1])(bR:kp<=1000):
 aj ae 21 #[af #[D TA 1 aH,D TB 1 cB,H I 1,H I 0,al ⟨#[104,101,117,110]⟩,D SC 2 cc,D SA 2 ca,D SB 2 cb,D SE 2 ce,D PA 0 cp,H I 200],af x.toArray,D CW 1 cw,H I 1] w (Gl w):=by
 have br:=G bU;have bG:=G bX;have bH:=G hw;have bt:=G (wd q);have bs:=G (wg q);have bE:=G Z.vU;have aR:=G bj;obtain⟨a5,aV,ai,a7,bl,bd,n,a8,bk,bh,cy,rfl,p,cD,r⟩:=bj;clear p cD r bU bX hw;rw[show Z.g3.y.length=1 from Z.qj.2.1]at aR|-;obtain⟨aQ,bS⟩:∃aQ,Z.g3.tries.length=aQ:=⟨_,rfl⟩;rw[bS]at aR|-;obtain⟨bZ,bq⟩:∃o:Rat,Y (((1:Int):Rat)=o):=⟨_,G rfl⟩;have b7:Y (E.Lq bZ 2):=G (by rw[<-bq.out];exact dR (by omega));have b9:Y (Pq.sc bZ [1]=[1]):=G (by rw[<-bq.out];decide +kernel);clear bS;have f:V w ((((w.alloc (ao #[D TA 1 aH,D TB 1 cB,H I 1,H I 0,al ⟨#[104,101,117,110]⟩,D SC 2 cc,D SA 2 ca,D SB 2 cb,D SE 2 ce,D PA 0 cp,H I 200] 49)).alloc (ao #[D a5 aQ bd,J bl,D aV n a8,D ai bk bh,D a7 1 cy] 61)).alloc (ao #[D none 0 0,D none 0 0] 84)).alloc (ao #[H I 0,H I 0,H I 0,H I 0] 63)):=((((V.refl w).alloc _).alloc _).alloc _).alloc _;obtain⟨s,e,d,c⟩:=rX 49 61 84 63 w [D TA 1 aH,D TB 1 cB,H I 1,H I 0,al ⟨#[104,101,117,110]⟩,D SC 2 cc,D SA 2 ca,D SB 2 cb,D SE 2 ce,D PA 0 cp,H I 200] [D a5 aQ bd,J bl,D aV n a8,D ai bk bh,D a7 1 cy] [D none 0 0,D none 0 0] [H I 0,H I 0,H I 0,H I 0];go_enter func21,ntmps21;have R:=s.ek;have F:=e.k 0;have K:=e.k 1;have L:=e.k 2;have M:=e.k 3;have N:=e.k 4;go_wp2_with fail;generalize((((w.alloc (ao #[D TA 1 aH,D TB 1 cB,H I 1,H I 0,al ⟨#[104,101,117,110]⟩,D SC 2 cc,D SA 2 ca,D SB 2 cb,D SE 2 ce,D PA 0 cp,H I 200] 49)).alloc (ao #[D a5 aQ bd,J bl,D aV n a8,D ai bk bh,D a7 1 cy] 61)).alloc (ao #[D none 0 0,D none 0 0] 84)).alloc (ao #[H I 0,H I 0,H I 0,H I 0] 63))=bP at*;clear R F K L M N;have j:=d.c2;have P:=d.free;have k:=c.c4;have C:=c.free
 with_reducible refine(mZ (br.out.up f) bt).mono ?_
 rintro aI cV ⟨rfl,u1⟩;clear k;revert f s e d c j;refine bO u1 ?_;intro f s e d c j;replace P:=d.free;have k:=c.c4;replace C:=c.free;clear u1;rw[bs.out];have F:=e.k 0;have K:=e.k 1;have L:=e.k 2;have M:=e.k 3;have N:=e.k 4;go_wp2_with fail
 with_reducible refine(t9 (aR.out.up f) bE (by decide) (by decide)).mono ?_
 rintro aI bu ⟨rfl,u2⟩;clear k F K L M N;revert f s e d c j;refine bO u2 ?_;intro f s e d c j;replace P:=d.free;have k:=c.c4;replace C:=c.free;clear u2;have R:=s.ek;have F:=e.k 0;have K:=e.k 1;have L:=e.k 2;have M:=e.k 3;have N:=e.k 4;go_wp2_with fail;clear k;revert f s e d c R;refine bO (V.refl bu).drew ?_;intro f s e d c R;revert j F K L M N;refine bO (V.refl bu).drew ?_;intro j F K L M N;replace P:=d.free;have k:=c.c4;replace C:=c.free;refine aZ ?_;refine a3 (S:=λbD=>V w bD/\Cz bD (w.heap.size) 0 [D TA 1 aH,D TB 1 cB,H I 1,H I 0,al ⟨#[104,101,117,110]⟩,D SC 2 cc,D SA 2 ca,D SB 2 cb,D SE 2 ce,D PA 0 cp,H I 200]/\Cz bD (w.heap.size+1) 0 [D a5 aQ bd,J bl,D aV n a8,D ai bk bh,D a7 1 cy]) (by kernel_rfl) (by exact⟨f,s.cz,e.cz⟩) (λaw=> ?_);generalize bu.drew=aF at*;refine aa 0 ?_;refine aa 1 ?_;refine aa 2 ?_;refine aa 5 ?_;refine aa 7 ?_;refine aa 8 ?_;refine aa 9 ?_;refine aa 11 ?_;refine aa 12 ?_
 repeat' first
  |(have X:=b4;clear b4
    (try clear aw)
    go_simp;go_at_call 48
    with_reducible refine(Gj (aR.out.up f)).mono ?_
    rintro aI aF ⟨aY,a1,a2,ba,bb,bf,dc,du,rfl,u,p,r,g⟩
    try(replace an:=an.up g)
    try(replace aq:=aq.up g)
    try(replace ay:=ay.up g)
    try(replace gb:=gb.up g)
    try(replace ar:=ar.up g)
    revert f s e d c R;refine bO g ?_;intro f s e d c R
    try(replace l:=l.up g)
    clear F K L M N;have F:=e.k 0;have K:=e.k 1;have L:=e.k 2;have M:=e.k 3;have N:=e.k 4;replace P:=d.free;clear j;have j:=d.c2;replace C:=c.free;clear k;have k:=c.c4;clear g
    try go_wp2_with fail
    refine ax X (by exact⟨f,s.cz,e.cz⟩) (λaw=> ?_);clear X aD)
  |(have X:=b6;clear b6
    (try clear aw)
    go_simp;go_at_call 22
    with_reducible refine(fd (n:=1) (by omega) aF).mono ?_
    rintro aI aF ⟨cS,rfl,an,g⟩
    try(replace u:=u.up g)
    try(replace p:=p.up g)
    try(replace r:=r.up g)
    try(replace aq:=aq.up g)
    try(replace ay:=ay.up g)
    try(replace gb:=gb.up g)
    try(replace ar:=ar.up g)
    revert f s e d c R;refine bO g ?_;intro f s e d c R
    try(replace l:=l.up g)
    clear F K L M N;have F:=e.k 0;have K:=e.k 1;have L:=e.k 2;have M:=e.k 3;have N:=e.k 4;replace P:=d.free;clear j;have j:=d.c2;replace C:=c.free;clear k;have k:=c.c4;clear g;rw[bq.out]at an;obtain⟨cY,cZ,rfl,an,ar⟩:=an;obtain⟨cO,dd,c3,rfl⟩:=an.shape;obtain⟨cP,de,c4,rfl⟩:=ar.shape
    try go_wp2_with fail
    refine ax X (by exact⟨f,s.cz,e.cz⟩) (λaw=> ?_);clear X aD)
  |(have X:=cn;clear cn
    (try clear aw)
    go_simp;go_at_call 29
    with_reducible refine(row_one ((eb an ar).fr b7.out) (bH.out.up f) (by decide) b9).mono ?_
    rintro aI aF ⟨cU,rfl,aq,g⟩
    try(replace u:=u.up g)
    try(replace p:=p.up g)
    try(replace r:=r.up g)
    try(replace an:=an.up g)
    try(replace ay:=ay.up g)
    try(replace gb:=gb.up g)
    try(replace ar:=ar.up g)
    revert f s e d c R;refine bO g ?_;intro f s e d c R
    try(replace l:=l.up g)
    clear F K L M N;have F:=e.k 0;have K:=e.k 1;have L:=e.k 2;have M:=e.k 3;have N:=e.k 4;replace P:=d.free;clear j;have j:=d.c2;replace C:=c.free;clear k;have k:=c.c4;clear g;obtain⟨bn,bz,(cx:_=D bn 1 bz)⟩:=aq.form;subst cx
    try go_wp2_with fail
    refine ax X (by exact⟨f,s.cz,e.cz⟩) (λaw=> ?_);clear X aD)
  |(have X:=bT;clear bT
    (try clear aw)
    go_simp;go_at_call 49
    with_reducible refine(v4 aF).mono ?_
    rintro aI aF ⟨cR,rfl,ay,g⟩
    try(replace u:=u.up g)
    try(replace p:=p.up g)
    try(replace r:=r.up g)
    try(replace an:=an.up g)
    try(replace aq:=aq.up g)
    try(replace gb:=gb.up g)
    try(replace ar:=ar.up g)
    revert f s e d c R;refine bO g ?_;intro f s e d c R
    try(replace l:=l.up g)
    clear F K L M N;have F:=e.k 0;have K:=e.k 1;have L:=e.k 2;have M:=e.k 3;have N:=e.k 4;replace P:=d.free;clear j;have j:=d.c2;replace C:=c.free;clear k;have k:=c.c4;clear g;obtain⟨bo,bA,(cv:_=D bo 0 bA)⟩:=ay.form;subst cv
    try go_wp2_with fail
    refine ax X (by exact⟨f,s.cz,e.cz⟩) (λaw=> ?_);clear X aD)
  |(have X:=bY;clear bY
    (try clear aw)
    go_simp;go_at_call 40
    with_reducible refine((kq (by decide) _).mono λ_ _ bj=>kG.of f bj).mono ?_
    rintro aI aF ⟨aP,rfl,gb,c9,g⟩
    try(replace u:=u.up g)
    try(replace p:=p.up g)
    try(replace r:=r.up g)
    try(replace an:=an.up g)
    try(replace aq:=aq.up g)
    try(replace ay:=ay.up g)
    try(replace ar:=ar.up g)
    revert f s e d c R;refine bO g ?_;intro f s e d c R
    try(replace l:=l.up g)
    clear F K L M N;have F:=e.k 0;have K:=e.k 1;have L:=e.k 2;have M:=e.k 3;have N:=e.k 4;replace P:=d.free;clear j;have j:=d.c2;replace C:=c.free;clear k;have k:=c.c4;clear g
    try go_wp2_with fail
    refine ax X (by exact⟨f,s.cz,e.cz⟩) (λaw=> ?_);clear X aD)
  |(have X:=b1;clear b1
    (try clear aw)
    refine fm (by rfl) ?_;refine kM (T:=126) (v:=af #[D TA 1 aH,D TB 1 cB,H I 1,H I 0,al ⟨#[104,101,117,110]⟩,D SC 2 cc,D SA 2 ca,D SB 2 cb,D SE 2 ce,D PA 0 cp,H I 200,H I 1,D aY 2 ba,D a1 2 bb,D a2 2 bf,D bn 1 bz,D bo 0 bA,az (U ⟨aP,0,none⟩)]) (.tmp 55) (by rfl) (cs:=[D TA 1 aH,D TB 1 cB,H I 1,H I 0,al ⟨#[104,101,117,110]⟩,D SC 2 cc,D SA 2 ca,D SB 2 cb,D SE 2 ce,D PA 0 cp,H I 200,H I 1,D aY 2 ba,D a1 2 bb,D a2 2 bf,D bn 1 bz,D bo 0 bA,az (U ⟨aP,0,none⟩)]) (by rfl) (by rfl) ?_;intro co l B;have c0:=s.lt;have c2:=e.lt;have cE:=d.lt;have cF:=c.lt;have cI:=f.size
    try(replace u:=u.up B)
    try(replace p:=p.up B)
    try(replace r:=r.up B)
    try(replace an:=an.up B)
    try(replace aq:=aq.up B)
    try(replace ay:=ay.up B)
    try(replace gb:=gb.up B)
    try(replace ar:=ar.up B)
    revert f s e d c;revert B;refine dH ?_;intro f s e d c
    generalize aF.heap.size=bi at*;obtain⟨aF,cC⟩:∃bP,bP=co:=⟨_,rfl⟩;subst cC;clear R;have R:=s.ek;clear F K L M N;have F:=e.k 0;have K:=e.k 1;have L:=e.k 2;have M:=e.k 3;have N:=e.k 4;replace P:=d.free;clear j;have j:=d.c2;replace C:=c.free;clear k;have k:=c.c4;refine ax X (by exact⟨f,s.cz,e.cz⟩) (λaw=> ?_);clear X aD)
  |(with_reducible show b5 _ _ _ _ _ _ _ _ _ _
    first
     |refine av (i:=3) rfl (λaD b4=> ?_) ?_
     |refine av (i:=4) rfl (λaD b6=> ?_) ?_
     |refine av (i:=6) rfl (λaD cn=> ?_) ?_
     |refine av (i:=10) rfl (λaD bT=> ?_) ?_
     |refine av (i:=13) rfl (λaD bY=> ?_) ?_
     |refine av (i:=15) rfl (λaD b1=> ?_) ?_
     |exact bm)
  |(with_reducible show bJ _ _ _ _ _ _ _ _ _
    first
     |refine ak [3] ?_
     |refine ak [4] ?_
     |refine ak [6] ?_
     |refine ak [10] ?_
     |refine ak [13] ?_
     |refine ak [15] ?_
     |refine aa 14 ?_
     |refine aa 16 ?_
     |refine aW (by decide +kernel) (aX ?_) _)
  |fail
 all_goals try clear aw
 all_goals have cJ:=l.qA
 have bQ:=cI;have da:=cE;have db:=cF;have cd:=G (λw2=>jA (Q:=cX 2) (aA.sq ay) w2);clear an ar gb ay;have iC:=l.k 12;go_wp2_with fail;clear iC;refine(pX _).mono ?_;rintro aI w5 ⟨cN,c5,rfl,bI,b0⟩;obtain⟨c8,more,rfl,A⟩:=pY bI;clear bI;clear k R F K L M N;revert u p r aq f s e d c l j;refine bC b0 ?_;intro u p r aq f s e d c l j;replace P:=d.free;have k:=c.c4;replace C:=c.free;replace cJ:=l.qA;clear b0;have bV:Y ((0:Rat)<7/16):=G (by decide +kernel);have bW:Y ((0:Rat)<9/16):=G (by decide +kernel);have bF:=G we;clear s e aR bE bH;have j:=d.c2;have P:=d.free;have k:=c.c4;have C:=c.free;go_wp2_with fail;refine wp_loop_rounds 3 ?_;rw[a9];have bx:=A.k 0;have c1:=A.cell (i:=0+1) rfl;have aK:=ez j;have aL:=d.fa;have aM:=ez k;have aN:=c.fa;go_wp2_with fail;clear aK aL aM aN;generalize ab:ah w5 _=ch at*;obtain⟨B,cK⟩:=aC ab;clear ab;have ds:=l.lt;have dh:=d.lt;have dm:=c.lt;clear k;revert A u p r aq f d c l j;refine bw B ?_;intro A u p r aq f d c l j;replace P:=d.free;have k:=c.c4;replace C:=c.free;clear B;have dv:=cK.c2;clear bx c1;have au:=G (FQ (nm:=⟨#[104,101,117,110]⟩) q);have aT:aj ae 51 #[az (U ⟨bi,0,none⟩),af #[H I 1,H I 2]] ch _:=v9 (a:=1) (gg:=aP) (h0:=9/16) (t:=7/16) (y:=785/512) (x:=1) (u0:=785/512) (u1:=19625/8192) (k1:=9/32) (k0:=225/512) (h1:=7/16) (h2:=9/16) (t1:=0) (t2:=7/16) (y1:=1) (y2:=785/512) (br.out.up f) bt bs bF (bG.out.up f) u bV bW p r aq cd l (by decide) (qo _ _ _) (qo _ _ _) (qo _ _ _) (G au.out.1) (G au.out.2.1) (G au.out.2.2.1) (G au.out.2.2.2.1) (G au.out.2.2.2.2) bR
 ((with_reducible refine aT.mono ?_))
 clear aT au;rintro aI bK ⟨rfl,hb,b2,cf,ct,cq,aJ,aS,sn⟩;have m:=Gb.hU hb l aJ;have b8:=G sn;replace u:=gv u m (by decide);replace p:=gv p m (by decide);replace r:=r.bs m (by decide);replace A:=A.bs m (cL A l (by decide));replace d:=d.bs m (by omega);replace c:=c.bs m (by omega);replace f:=m.jk f bQ;have l:Bx 126 bK bi [D TA 1 aH,D TB 1 cB,H I 1,H I 0,al ⟨#[104,101,117,110]⟩,D SC 2 cc,D SA 2 ca,D SB 2 cb,D SE 2 ce,D PA 0 cp,H I 200,H I 1,D aY 2 ba,D a1 2 bb,D a2 2 bf,D b2 1 ct,D cf 0 cq,az (U ⟨aP,0,none⟩)]:=aJ;clear m hb aJ sn j P k C;have j:=d.c2;have P:=d.free;have k:=c.c4;have C:=c.free;have aK:=ez j;have aL:=d.fa;have aM:=ez k;have aN:=c.fa;go_wp2_with fail;clear aK aL aM aN;generalize ab:ah bK _=ci at*;obtain⟨B,aO⟩:=aC ab;clear ab;have dq:=l.lt;have df:=d.lt;have dj:=c.lt;clear k;revert aS u p r A d c f l j;refine bw B ?_;intro aS u p r A d c f l j;replace P:=d.free;have k:=c.c4;replace C:=c.free;clear B;have cz:=aO.c4;rw[a9];have bx:=A.k 2;have c1:=A.cell (i:=2+1) rfl;have aK:=ez j;have aL:=d.fa;have aM:=ez k;have aN:=c.fa;have cA:=aO.d4;go_wp2_with fail;clear aK aL aM aN cA;generalize ab:ah ci _=ck at*;obtain⟨B,cM⟩:=aC ab;clear ab;have dt:=l.lt;have di:=d.lt;have dn:=c.lt;have c6:=aO.lt;clear k;revert aO aS u p r A d c f l j;refine bC B ?_;intro aO aS u p r A d c f l j;replace P:=d.free;have k:=c.c4;replace C:=c.free;replace cz:=aO.c4;clear B;have dw:=cM.c2;clear bx c1;have au:=G (FR (nm:=⟨#[104,101,117,110]⟩) q);have aT:aj ae 51 #[az (U ⟨bi,0,none⟩),af #[H I 0,H I 1]] ck _:=v9 (a:=0) (gg:=aP) (h0:=7/16) (t:=0) (y:=1) (x:=1+9/32+225/512) (u0:=1) (u1:=23/16) (k1:=6167/16384) (k0:=141841/262144) (h1:=7/16) (h2:=9/16) (t1:=0) (t2:=7/16) (y1:=1) (y2:=785/512) (br.out.up f) bt bs bF (bG.out.up f) u bV bW p r aS b8 l (by decide) (qp _ _ _) (qp _ _ _) (qp _ _ _) (G au.out.1) (G au.out.2.1) (G au.out.2.2.1) (G au.out.2.2.2.1) (G au.out.2.2.2.2) bR
 ((with_reducible refine aT.mono ?_))
 clear aT au;rintro aI bL ⟨rfl,hb,b3,cg,cu,cr,aJ,aG,sn⟩;have m:=Gb.hU hb l aJ;have cQ:=G sn;replace u:=gv u m (by decide);replace p:=gv p m (by decide);replace r:=r.bs m (by decide);replace A:=A.bs m (cL A l (by decide));replace d:=d.bs m (by omega);replace c:=c.bs m (by omega);replace f:=m.jk f bQ;have l:Bx 126 bL bi [D TA 1 aH,D TB 1 cB,H I 1,H I 0,al ⟨#[104,101,117,110]⟩,D SC 2 cc,D SA 2 ca,D SB 2 cb,D SE 2 ce,D PA 0 cp,H I 200,H I 1,D aY 2 ba,D a1 2 bb,D a2 2 bf,D b3 1 cu,D cg 0 cr,az (U ⟨aP,0,none⟩)]:=aJ;clear m hb aJ sn j P k C;have j:=d.c2;have P:=d.free;have k:=c.c4;have C:=c.free;have aK:=ez j;have aL:=d.fa;have aM:=ez k;have aN:=c.fa;go_wp2_with fail;clear aK aL aM aN;generalize ab:ah bL _=cl at*;obtain⟨B,aB⟩:=aC ab;clear ab;have dr:=l.lt;have dg:=d.lt;have dk:=c.lt;clear k;revert aG u p r A d c f l j;refine bw B ?_;intro aG u p r A d c f l j;replace P:=d.free;have k:=c.c4;replace C:=c.free;clear B;have bB:=aB.c4;rw[a9];go_wp2_with fail;have cG:=l.k 15;have cH:=l.k 16
 go_region
 generalize ab:ag (ag cl _ _) _ _=cm at*;have m:=dp d ab;clear ab;replace u:=gv u m (by decide);replace p:=gv p m (by decide);replace r:=r.bs m (by decide);replace A:=A.bs m (cL A d (by decide));replace aG:=gv aG m (by decide);replace l:=l.bs m;replace c:=c.bs m;replace aB:=aB.bs m;replace d:=m.new;replace f:=f.bs m;clear m;clear j k cG cH;have j:=d.c2;have k:=c.c4;replace C:=c.free;replace bB:=aB.c4;generalize ab:ag (ag (ag (ag cm _ _) _ _) _ _) _ _=bv at*;have m:=bp c ab;clear ab;replace u:=gv u m (by decide);replace p:=gv p m (by decide);replace r:=r.bs m (by decide);replace A:=A.bs m (cL A c (by decide));replace aG:=gv aG m (by decide);replace l:=l.bs m;replace d:=d.bs m;replace aB:=aB.bs m;replace c:=m.new;replace f:=f.bs m;clear m;clear j k;have j:=d.c2;have k:=c.c4;replace bB:=aB.c4;revert u p r A aG l d aB c f j;refine bC (V.refl bv).drew ?_;intro u p r A aG l d aB c f j;revert k;refine cj (V.refl bv).drew ?_;intro k;replace bB:=aB.c4;generalize bv.drew=cW at*;go_wp2_with fail;exact a4 (gl rfl rfl rfl qa qc bM bN d rfl c rfl) rfl ⟨_,_,_,_,_,rfl,aG,hW,f⟩
def fJ (z o b c d e f g aq ab:Rat)(w a:O)(xs:List W):Prop:= ∃(R S m k l n:Option am) (U V r q cb s:Nat) (y A B C F K L M N P:Option am) (c1 c2 c3 c4 c5 ae ag ah ai aj:Nat) (ao x:Bool) (G Q i j T:Option am) (an Y ak aa v p u t X:Nat),xs=[D R 1 U,D S 1 V,H I 1,H I 0,al ⟨#[104,101,117,110]⟩,D m 2 r,D k 2 q,D l 2 cb,D n 2 s,D none 0 0,H I 200,J (E.aB c.num),D y (E.words c.num.natAbs).length c1,D K (E.words c.den).length ae,J (E.aB d.num),D A (E.words d.num.natAbs).length c2,D L (E.words d.den).length ag,J (E.aB e.num),D B (E.words e.num.natAbs).length c3,D M (E.words e.den).length ah,J (E.aB f.num),D C (E.words f.num.natAbs).length c4,D N (E.words f.den).length ai,J (E.aB g.num),D F (E.words g.num.natAbs).length c5,D P (E.words g.den).length aj,H I 16,H I 100,J ao,D G an Y,D Q ak aa,J x,D i v p,D j u t,J x,D i v p,D j u t,D T 1 X]/\c7 2 a [D R 1 U,D S 1 V,H I 1,H I 0,al ⟨#[104,101,117,110]⟩,D m 2 r,D k 2 q,D l 2 cb,D n 2 s,D none 0 0,H I 200] (Z.qb (false,[],[]) (aE z) (aE o) (aE b) ⟨#[104,101,117,110]⟩)/\dG w a (D m 2 r) (D k 2 q) (D l 2 cb) (D n 2 s) z o b/\
 ((Ws a (D y (E.words c.num.natAbs).length c1) (E.words c.num.natAbs)/\Ws a (D K (E.words c.den).length ae) (E.words c.den))/\(Ws a (D A (E.words d.num.natAbs).length c2) (E.words d.num.natAbs)/\Ws a (D L (E.words d.den).length ag) (E.words d.den))/\(Ws a (D B (E.words e.num.natAbs).length c3) (E.words e.num.natAbs)/\Ws a (D M (E.words e.den).length ah) (E.words e.den))/\(Ws a (D C (E.words f.num.natAbs).length c4) (E.words f.num.natAbs)/\Ws a (D N (E.words f.den).length ai) (E.words f.den))/\(Ws a (D F (E.words g.num.natAbs).length c5) (E.words g.num.natAbs)/\Ws a (D P (E.words g.den).length aj) (E.words g.den)))/\
 Fr a (af #[J ao,D G an Y,D Q ak aa]) aq 2/\Fr a (af #[J x,D i v p,D j u t]) ab 2/\aU 2 a (D T 1 X) [ab]
theorem qg.gt (h:qg z o b U0 U2 U3 U4 U5 s0 e0 w e ab):∃xs,e=aw (af xs.toArray)/\fJ z o b U0 U2 U3 U4 U5 s0 e0 w ab xs/\V w ab:=by
 obtain⟨v,x,t,r,s,u,A,B,F,E,cb,G,a,c,d,f,g,j,k,l,m,n,c1,c2,c3,c4,c5,J,K,L,M,N,ae,aa,AS,q,i,p,y,Z,cS,X,I,Y,C,W,H,D,U,h1,h2,P,Q,R,S,T⟩:=h;exact⟨_,U,⟨v,x,t,r,s,u,A,B,F,E,cb,G,a,c,d,f,g,j,k,l,m,n,c1,c2,c3,c4,c5,J,K,L,M,N,ae,aa,AS,q,i,p,y,Z,cS,X,I,Y,C,W,H,D,rfl,h1,h2,P,Q,R,S⟩,T⟩
theorem fJ.len (h:fJ z o b U0 U2 U3 U4 U5 s0 e0 w ab xs):xs.length=38/\xs.all (·.oneCell')=true:=by
 obtain⟨u,v,s,q,r,t,y,A,E,D,cb,F,a,c,d,e,f,i,j,k,l,m,c1,c2,c3,c4,c5,I,J,K,L,M,T,S,AS,p,g,n,x,R,cS,P,H,Q,B,N,G,C,rfl,_⟩:=h;exact⟨rfl,rfl⟩
theorem fJ.GX (h:fJ z o b U0 U2 U3 U4 U5 s0 e0 w ab xs):∃(i j c SA a d:Option am) (k l f e cb g:Nat),(xs.drop 0).take 11=[D i 1 k,D j 1 l,H I 1,H I 0,al ⟨#[104,101,117,110]⟩,D c 2 f,D SA 2 e,D a 2 cb,D d 2 g,D none 0 0,H I 200]/\c7 2 ab [D i 1 k,D j 1 l,H I 1,H I 0,al ⟨#[104,101,117,110]⟩,D c 2 f,D SA 2 e,D a 2 cb,D d 2 g,D none 0 0,H I 200] (Z.qb (false,[],[]) (aE z) (aE o) (aE b) ⟨#[104,101,117,110]⟩)/\dG w ab (D c 2 f) (D SA 2 e) (D a 2 cb) (D d 2 g) z o b:=by
 obtain⟨i,j,c,SA,a,d,k,l,f,e,cb,g,m,n,p,q,r,t,u,v,x,y,c1,c2,c3,c4,c5,K,L,M,N,P,V,U,AS,B,s,A,C,T,cS,R,J,S,E,Q,G,F,rfl,h1,h2,_⟩:=h;exact⟨i,j,c,SA,a,d,k,l,f,e,cb,g,rfl,h1,h2⟩
theorem fJ.up {z o b U0 U2 U3 U4 U5 s0 e0:Rat}{w0 w ab:O}{xs:List W}(h:fJ z o b U0 U2 U3 U4 U5 s0 e0 w0 w xs)(u:V w ab):fJ z o b U0 U2 U3 U4 U5 s0 e0 w0 ab xs:=by
 obtain⟨x,y,t,r,s,v,B,C,G,F,cb,H,a,c,d,f,g,j,k,l,m,n,c1,c2,c3,c4,c5,K,L,M,N,P,am,al,AS,q,i,p,A,ak,cS,ai,J,aj,D,ah,I,E,e,T,U,⟨⟨l1,Z⟩,⟨l2,aa⟩,⟨l3,ae⟩,⟨X,af⟩,Y,ag⟩,R,Q,S⟩:=h;exact⟨x,y,t,r,s,v,B,C,G,F,cb,H,a,c,d,f,g,j,k,l,m,n,c1,c2,c3,c4,c5,K,L,M,N,P,am,al,AS,q,i,p,A,ak,cS,ai,J,aj,D,ah,I,E,e,T.up u,U.up u,⟨⟨l1.up u,Z.up u⟩,⟨l2.up u,aa.up u⟩,⟨l3.up u,ae.up u⟩,⟨X.up u,af.up u⟩,Y.up u,ag.up u⟩,R.up u,Q.up u,S.up u⟩
instance fJ.bW {z o b U0 U2 U3 U4 U5 s0 e0:Rat} {w0 w ab:O} {xs:List W}:Lu (V w ab) (fJ z o b U0 U2 U3 U4 U5 s0 e0 w0 w xs) (fJ z o b U0 U2 U3 U4 U5 s0 e0 w0 ab xs):=bu λu h=>h.up u
theorem Gn (n:Nat)(s:Z.So)(h:Z.st Z.gk n=U s):n<=12:=by
 by_cases c:4<=n
 .have a:Z.st Z.gk 4=none:=by
   have:=Z.qh.2.2.2.2;cases b:Z.st Z.gk 4 with
   |none=>rfl
   |some s=>rw[b]at this;exact absurd this (by simp)
  rw[Z.vS a c]at h;cases h
 .omega
theorem kY (h:E.Lq q 130):(E.words q.num.natAbs).length<=1000/\(E.words q.den).length<=1000:=⟨aQ h.1 (by decide),aQ h.2 (by decide)⟩
theorem fJ.solve (q:Fq z o b)(a:Y (((1:Int):Rat)/((4:Int):Rat)=U0))(c:Y (((9:Int):Rat)/((10:Int):Rat)=U2))(d:Y (((1:Int):Rat)/((5:Int):Rat)=U3))(e:Y (((5:Int):Rat)=U4))(f:Y (((1:Int):Rat)/((1000000:Int):Rat)=U5))(j:Y (((0:Int):Rat)=s0))(i:Y (((1:Int):Rat)=e0))(h:fJ z o b U0 U2 U3 U4 U5 s0 e0 w0 w xs):aj ae 20 #[af xs.toArray] w (vW Z.g3 w):=by
 have l:=FT q a c d e f j i;have t:=FU q (wg q) a c d e f j i;have v:E.Lq U0 130:=by rw[<-a.out];exact ey (by decide +kernel)
 have x:E.Lq U2 130:=by rw[<-c.out];exact ey (by decide +kernel)
 have y:E.Lq U3 130:=by rw[<-d.out];exact ey (by decide +kernel)
 have A:E.Lq U4 130:=by rw[<-e.out];exact ey (by decide +kernel)
 have B:E.Lq U5 130:=by rw[<-f.out];exact ey (by decide +kernel)
 obtain⟨ar,au,ao,am,an,aq,aw,ax,aB,aA,cb,aC,Q,R,S,T,V,aa,ab,ag,ah,ai,c1,c2,c3,c4,c5,aG,aH,aI,aJ,aK,aS,aR,AS,al,X,ak,av,aQ,cS,aO,aF,aP,ay,aN,aD,az,rfl,H,aM,⟨⟨l1,K⟩,⟨l2,L⟩,⟨l3,M⟩,⟨I,N⟩,J,P⟩,D,r,F⟩:=h;refine FV (k:=Z.gk) (g:=Z.g3) (λm u=> ?_) (G λs aL ⟨n,h1,h2⟩=>Z.FN h1 h2)
 have C:=uO (H.up u) (G (wd q)) (l1.up u) (K.up u) (l2.up u) (L.up u) (l3.up u) (M.up u) (I.up u) (N.up u) (J.up u) (P.up u) (kY v) (kY x) (kY y) (kY A) (kY B) (fi:=16) (mo:=100) (by decide) (by decide) (D.up u) (r.up u) (r.up u) (F.up u) (by decide) (G (by
  intro _;show∀n s,Z.st (⟨(Z.qb (false,[],[]) (aE z) (aE o) (aE b) ⟨#[104,101,117,110]⟩).pr,⟨Z.dv U0,Z.dv U2,Z.dv U3,Z.dv U4,Z.dv U5,16,100⟩,s0,e0,e0,[e0]⟩:Z.Tk) n=U s->n<=12;rw[l];exact Gn))
 have p:aj ae 7 _ m (nt (Z.fp (Z.qb (false,[],[]) (aE z) (aE o) (aE b) ⟨#[104,101,117,110]⟩) (Pc.de (List.all [aE U0,aE U2,aE U3,aE U4,aE U5] bV) (Z.dv U0) (Z.dv U2) (Z.dv U3) (Z.dv U4) (Z.dv U5) 16 100==0) 1 s0 e0 e0) (⟨(Z.qb (false,[],[]) (aE z) (aE o) (aE b) ⟨#[104,101,117,110]⟩).pr,⟨Z.dv U0,Z.dv U2,Z.dv U3,Z.dv U4,Z.dv U5,16,100⟩,s0,e0,e0,[e0]⟩:Z.Tk) m):=C;rw[t,l]at p;exact p
theorem Gp {s:Bool}{ai:Option am}{m d:Nat}(hb:Bx 53 w g [J s,D A n c,D ai m d])(h:Fr w (af #[J s,D A n c,D ai m d]) q k):aU k w (D (U ⟨g,0,none⟩) 1 1) [q]:=⟨_,1,[⟨s,D A n c,D ai m d⟩],rfl,by simp,by simp[maxLen],Al.one h,mi (c:=1) hb⟩
theorem jB (w:O):aj ae 5 #[] w λe an=>e=aw (J true)/\V w an:=by
 obtain⟨aC,o,a7,q⟩:∃aC o a7,Fq aC o a7:=⟨_,_,_,rfl,rfl,rfl⟩;obtain⟨cm,aL⟩:∃B,Y (((1:Int):Rat)/((4:Int):Rat)=B):=⟨_,G rfl⟩;obtain⟨cn,bA⟩:∃B,Y (((1:Int):Rat)/((1000:Int):Rat)=B):=⟨_,G rfl⟩;obtain⟨co,aM⟩:∃B,Y (((9:Int):Rat)/((10:Int):Rat)=B):=⟨_,G rfl⟩;obtain⟨cp,aN⟩:∃B,Y (((1:Int):Rat)/((5:Int):Rat)=B):=⟨_,G rfl⟩;obtain⟨cq,aO⟩:∃B,Y (((5:Int):Rat)=B):=⟨_,G rfl⟩;obtain⟨cr,aP⟩:∃B,Y (((1:Int):Rat)/((1000000:Int):Rat)=B):=⟨_,G rfl⟩;obtain⟨cQ,aT⟩:∃B,Y (((0:Int):Rat)=B):=⟨_,G rfl⟩;obtain⟨bh,af⟩:∃B,Y (((1:Int):Rat)=B):=⟨_,G rfl⟩;have bD:Y (E.Lq bh 2):=G (by rw[<-af.out];exact dR (by omega));have bC:Y (bh=1):=G (by rw[<-af.out];decide +kernel);go_enter func5,ntmps5;go_wp2_with fail;refine(FM q aL bA aM aN aO aP aT af _).mono ?_;intro e au L;obtain⟨Q,rfl,N,a⟩:=L.gt;have X:=G N.len;clear L;have aR:Y ((Tryz.prog.info? 57).map (·.size)=U Q.length):=G (by rw[X.out.1];kernel_rfl);have aS:Y (([D none 0 0,D none 0 0,H I 0,H I 0,al ⟨#[]⟩,D none 0 0,D none 0 0,D none 0 0,D none 0 0,D none 0 0,H I 0,J false,D none 0 0,D none 0 0,J false,D none 0 0,D none 0 0,J false,D none 0 0,D none 0 0,J false,D none 0 0,D none 0 0,J false,D none 0 0,D none 0 0,H I 0,H I 0,J false,D none 0 0,D none 0 0,J false,D none 0 0,D none 0 0,J false,D none 0 0,D none 0 0,D none 0 0]:List W).length=Q.length):=G (by rw[X.out.1];rfl);go_upto_region 2 with((with_reducible show Oper.wp _ _ _ _ _ _);refine nu (T:=57) (S:=57) (g:=au.heap.size) (old:=[D none 0 0,D none 0 0,H I 0,H I 0,al ⟨#[]⟩,D none 0 0,D none 0 0,D none 0 0,D none 0 0,D none 0 0,H I 0,J false,D none 0 0,D none 0 0,J false,D none 0 0,D none 0 0,J false,D none 0 0,D none 0 0,J false,D none 0 0,D none 0 0,J false,D none 0 0,D none 0 0,H I 0,H I 0,J false,D none 0 0,D none 0 0,J false,D none 0 0,D none 0 0,J false,D none 0 0,D none 0 0,D none 0 0]) (cs:=Q) (.tmp 1) (.tmp 6) (by rfl) (by rfl) (by rfl) (Bx.new _ _ _) aR.out aS.out X.out.2 (by rfl) ?_;intro bF f)
 have b:=f.new;have ab:V au bF:=f.jk ((V.refl au).alloc _) (a8 _);replace N:=N.up ab;replace a:=a.trans ab;clear f ab;have bu:(Q.drop 0).take 38=Q:=by rw[List.drop_zero];exact List.take_of_length_le (by rw[X.out.1];exact a8 _)
 go_wp2_with(with_reducible show wpList _ _ _ _ _ _;refine ex (o:=⟨_,Op.load 57 _,_,_,_,_⟩) _ rfl (by kernel_rfl) rfl hP hQ b bu X.out.1 ?_);refine(fJ.solve q aL aM aN aO aP aT af N).mono ?_;rintro e aD ⟨cM,rfl,bs,ab⟩;revert b N a;refine bo ab ?_;intro b N a;clear ab bu;have r:=bs.p;obtain⟨bE,bx,bz,bH,ce,bL,ca,bI,b8,bQ,cy,rfl,b2,b7,b6⟩:=bs;clear b2 b7 b6;obtain⟨a2,a4,aY,aU,aV,a1,a9,ba,bd,bb,cb,bf,bv,s,p⟩:=N.GX;obtain⟨bw,rfl⟩:∃bw,Q=[D a2 1 a9,D a4 1 ba,H I 1,H I 0,al ⟨#[104,101,117,110]⟩,D aY 2 bd,D aU 2 bb,D aV 2 cb,D a1 2 bf,D none 0 0,H I 200]++bw:=⟨Q.drop 11,by rw[<-bv,List.drop_zero,List.take_append_drop]⟩;clear bv N X aR aS;go_upto_region 3 with fail
 generalize t:ah (ah aD _) _=a5 at*;obtain⟨k,c,d⟩:=br t;clear t;have cX:=b.lt;have cU:=b.lt;revert a r s p b;revert k;refine dH ?_;intro a r s p b;have P:=c.c5;have M:=d.c4;have z:=b.ek;have bq:=r;have bt:=s
 go_cut [4,5] (λcc cd ao=> ∃(l aJ:Nat) (ai ar:Option am) (cs ay:Nat) (R:Rat),cc=az (U ⟨l,0,none⟩)/\cd=az (U ⟨aJ,0,none⟩)/\Bx 84 ao l [D ai 1 cs,D ar 0 ay]/\Bx 63 ao aJ [H I 0,H I 0,H I 0,H I 0]/\Bx 63 ao (aD.heap.size+1) [H I 0,H I 0,H I 0,H I 0]/\aF 130 ao (D ai 1 cs) [R]/\0<R/\V w ao)
 case first=>
  revert c d a r s p b z;refine b9 (V.refl a5).drew ?_;intro c d a r s p b z
  replace P:=c.c5;replace M:=d.c4;refine aZ ?_;refine a3 (S:=λan=>V w an/\Cz an (au.heap.size) 0 [D a2 1 a9,D a4 1 ba,H I 1,H I 0,al ⟨#[104,101,117,110]⟩,D aY 2 bd,D aU 2 bb,D aV 2 cb,D a1 2 bf,D none 0 0,H I 200]/\Cz an (aD.heap.size) 0 [D bE Z.g3.tries.length bL,J ce,D bx ca bI,D bz b8 bQ,D bH Z.g3.y.length cy]) (by kernel_rfl) (by exact⟨a,b.cy 0 11,c.cz⟩) (λC=> ?_);generalize a5.drew=v at*;refine aa 0 ?_;refine aa 1 ?_;refine aa 2 ?_
  repeat' first
   |(have m:=bT;clear bT
     (try clear C)
     go_simp;go_at_call 22
     with_reducible refine(fd (n:=1) (by omega) v).mono ?_
     rintro e v ⟨ct,rfl,u,F⟩;revert c d a r s p b z;refine b9 F ?_;intro c d a r s p b z
     try(replace A:=A.up F)
     try(replace x:=x.up F)
     try(replace y:=y.up F)
     try(replace l:=l.up F)
     try(replace j:=j.up F)
     replace P:=c.c5;replace M:=d.c4;clear F;rw[af.out]at u;obtain⟨cv,cz,rfl,u,x⟩:=u;obtain⟨ck,cO,cA,rfl⟩:=u.shape;obtain⟨cl,cP,cB,rfl⟩:=x.shape
     try go_wp2_with fail
     refine ax m (by exact⟨a,b.cy 0 11,c.cz⟩) (λC=> ?_);clear m K)
   |(have m:=bY;clear bY
     (try clear C)
     go_simp;have cY:=b.lt;have cL:=c.lt;have cE:=d.lt;have cR:=a.size
     try(have bV:=l.lt)
     try(have bR:=j.lt)
     generalize L:v.heap.size=cI at*;generalize t:ah v _=v at*;obtain⟨k,y⟩:=b3 t L;clear t L;revert c d a r s p b z;refine b9 k ?_;intro c d a r s p b z
     try(replace u:=u.up k)
     try(replace A:=A.up k)
     try(replace x:=x.up k)
     try(replace l:=l.up k)
     try(replace j:=j.up k)
     replace P:=c.c5;replace M:=d.c4;clear k;refine ax m (by exact⟨a,b.cy 0 11,c.cz⟩) (λC=> ?_);clear m K)
   |(have m:=b1;clear b1
     (try clear C)
     go_simp;go_at_call 21
     with_reducible refine(Gm q s p r (by have bn:=Gp y ((eb u x).fr bD.out);rw[bC.out]at bn;exact bn) (by decide)).mono ?_
     rintro e v ⟨ai,ar,cs,ay,R,rfl,A,aB,F⟩;revert c d a r s p b z;refine b9 F ?_;intro c d a r s p b z
     try(replace u:=u.up F)
     try(replace x:=x.up F)
     try(replace y:=y.up F)
     try(replace l:=l.up F)
     try(replace j:=j.up F)
     replace P:=c.c5;replace M:=d.c4;clear F
     try go_wp2_with fail
     refine ax m (by exact⟨a,b.cy 0 11,c.cz⟩) (λC=> ?_);clear m K)
   |(have m:=b4;clear b4
     (try clear C)
     go_simp;have cW:=b.lt;have cK:=c.lt;have cD:=d.lt;have cG:=a.size
     try(have cg:=y.lt)
     try(have bj:=j.lt)
     generalize L:v.heap.size=bZ at*;generalize t:ah v _=v at*;obtain⟨k,l⟩:=b3 t L;clear t L;revert c d a r s p b z;refine b9 k ?_;intro c d a r s p b z
     try(replace u:=u.up k)
     try(replace A:=A.up k)
     try(replace x:=x.up k)
     try(replace y:=y.up k)
     try(replace j:=j.up k)
     replace P:=c.c5;replace M:=d.c4;clear k;refine ax m (by exact⟨a,b.cy 0 11,c.cz⟩) (λC=> ?_);clear m K)
   |(have m:=bB;clear bB
     (try clear C)
     go_simp;have cV:=b.lt;have cJ:=c.lt;have cC:=d.lt;have cF:=a.size
     try(have cf:=y.lt)
     try(have bk:=l.lt)
     generalize L:v.heap.size=bX at*;generalize t:ah v _=v at*;obtain⟨k,j⟩:=b3 t L;clear t L;revert c d a r s p b z;refine b9 k ?_;intro c d a r s p b z
     try(replace u:=u.up k)
     try(replace A:=A.up k)
     try(replace x:=x.up k)
     try(replace y:=y.up k)
     try(replace l:=l.up k)
     replace P:=c.c5;replace M:=d.c4;clear k;refine ax m (by exact⟨a,b.cy 0 11,c.cz⟩) (λC=> ?_);clear m K)
   |(have m:=bK;clear bK
     (try clear C)
     have aE:=l.k 0;have aG:=l.k 1;have aH:=l.free 0;have aI:=l.free 1;go_simp;clear aE aG aH aI;generalize t:ag (ag v _ _) _ _=v at*;have f:=dp l t;clear t;replace s:=bt;replace p:=p.bs f (by decide);replace r:=bq
     try(replace u:=u.kw f.kw)
     try(replace A:=gv A f (by decide))
     try(replace x:=x.kw f.kw)
     replace b:=b.bs f;replace c:=c.bs f;replace d:=d.bs f;replace y:=y.bs f (by first|omega|(have:=cg;omega)|(have:=bV;omega));replace j:=j.bs f (by first|omega|(have:=bj;omega)|(have:=bk;omega));replace l:=f.new;replace a:=a.bs f;clear f;clear z;have z:=b.ek;replace P:=c.c5;replace M:=d.c4;refine ax m (by exact⟨a,b.cy 0 11,c.cz⟩) (λC=> ?_);clear m K)
   |(have m:=bP;clear bP
     (try clear C)
     have aE:=j.k 0;have aG:=j.k 1;have bM:=j.k 2;have bN:=j.k 3;have aH:=j.free 0;have aI:=j.free 1;have bS:=j.free 2;have bU:=j.free 3;go_simp;clear aE aG bM bN aH aI bS bU;generalize t:ag (ag (ag (ag v _ _) _ _) _ _) _ _=v at*;have f:=bp j t;clear t;replace s:=bt;replace p:=p.bs f (by decide);replace r:=bq
     try(replace u:=u.kw f.kw)
     try(replace A:=gv A f (by decide))
     try(replace x:=x.kw f.kw)
     replace b:=b.bs f;replace c:=c.bs f;replace d:=d.bs f;replace y:=y.bs f (by first|omega|(have:=cf;omega)|(have:=bR;omega));replace l:=l.bs f (by first|omega|(have:=bk;omega)|(have:=bj;omega));replace j:=f.new;replace a:=a.bs f;clear f;clear z;have z:=b.ek;replace P:=c.c5;replace M:=d.c4;refine ax m (by exact⟨a,b.cy 0 11,c.cz⟩) (λC=> ?_);clear m K)
   |(with_reducible show b5 _ _ _ _ _ _ _ _ _ _
     first
      |refine av (i:=3) rfl (λK bT=> ?_) ?_
      |refine av (i:=4) rfl (λK bY=> ?_) ?_
      |refine av (i:=5) rfl (λK b1=> ?_) ?_
      |refine av (i:=9) rfl (λK b4=> ?_) ?_
      |refine av (i:=10) rfl (λK bB=> ?_) ?_
      |refine av (i:=11) rfl (λK bK=> ?_) ?_
      |refine av (i:=12) rfl (λK bP=> ?_) ?_
      |exact bm)
   |(with_reducible show bJ _ _ _ _ _ _ _ _ _
     first
      |refine ak [3,9,10] ?_
      |refine ak [3,9] ?_
      |refine ak [3,10] ?_
      |refine ak [3] ?_
      |refine ak [4,9,10] ?_
      |refine ak [4,9] ?_
      |refine ak [4,10] ?_
      |refine ak [4] ?_
      |refine ak [5,9,10] ?_
      |refine ak [5,9] ?_
      |refine ak [5,10] ?_
      |refine ak [5] ?_
      |refine ak [9,10] ?_
      |refine ak [9] ?_
      |refine ak [10] ?_
      |refine ak [11] ?_
      |refine ak [12] ?_
      |refine aa 6 ?_
      |refine aa 7 ?_
      |refine aa 8 ?_
      |refine aW (by decide +kernel) (aX ?_) _)
   |fail
  all_goals try clear C
  all_goals have cS:=y.c3
  all_goals have cH:=l.c2
  all_goals have bi:=j.c4
  all_goals
   go_wp2_with fail
   go_meet
   exact⟨bZ,bX,ai,ar,cs,ay,R,rfl,rfl,l,j,d,A,aB,a⟩
 case rest=>
  obtain⟨l,aJ,ai,ar,cs,ay,R,rfl,rfl,aA,j,d,A,aB,a⟩:=hcut;obtain⟨gr,cZ,cw,cx,c3,c0,c4,c1,c2,rfl,_,aq,aK,_⟩:=nB A;obtain⟨b0,aQ⟩:∃aC,Y (E.bU R.num=aC):=⟨_,G rfl⟩
  have cN:0<b0:=by
   have bl:=Pc.jt R;rw[aQ.out,decide_eq_true aB]at bl;exact of_decide_eq_true bl
  clear A aB;have bW:=aA.c2;have bi:=j.c4;have M:=d.c4;have ch:=aq.k 0;have ci:=aq.k 1;have cj:=aq.k 2;go_wp2_with fail;go_wp2_with fail
  with_reducible refine(fQ aK.fr (by omega)).mono ?_
  rintro e cu ⟨rfl,u51⟩;clear ch ci cj;revert j d a aA aq aK;refine bO u51 ?_;intro j d a aA aq aK
  replace bW:=aA.c2;replace bi:=j.c4;replace M:=d.c4;clear u51;rw[aQ.out];go_wp2;go_ret;exact⟨rfl,a⟩
end Go.Proofs.YtjopfpegcckllaaGreatDoor
