/- A part of TopStops's proof: SvBack SvBackS SvBackA SvBackT. -/
import Derived.Deep.DeepCutAuto
import Derived.LoopN
import Derived.Test.YtjopfpegcckllaaGreatDoorZqAo
set_option linter.all false
set_option maxRecDepth 100000
set_option maxHeartbeats 12800000
open Go.Proofs.Tryz
open Go renaming World→O,Value→W,wpAnyH→bJ,AllReadyH→b5,Calls→aj,Addr→am,maxLen→cm,TypeId→an,Ending→aO,rounds_succ→a9,bodyPost_ret→a4,wp_region_noPanic→aZ,wp_region_held_drew→a3,wpAnyH_done→aW
open Go.Act renaming put→bg
open Go.AllReadyH renaming cons→av,nil→bm
open Go.Ending renaming returned→aw
open Go.IntKind renaming i64→I
open Go.Lib renaming hid→G
open Go.NoPanic renaming normal→aX
open Go.Obj renaming cells→ao
open Go.Proofs.Tryz renaming prog→ae
open Go.RowKit renaming Hid→Y
open Go.Value renaming tuple→aY,int→H,bool→J,slice→D,agg→af,pointer→az,string→al
open Go.World renaming setCell→ag,alloc→ah
open Nat renaming le_refl→a8
open Option renaming some→U
variable {s1 s2:Bool}{L a i:Int}{qs:List Rat}{cs more new old:List W}{K aH c c1 c2 c3 c4 cB cE cK cY ca cb cc ce cp cw cy d1 d2 fU fZ g gU gg gm gy j k kh kp ky m1 m2 n n1 n2 nE nK nN:Nat}{yc:Nat->Nat}{yv:Nat->Rat}{ab w w0 w1 wb ws:O}{A A1 A2 CW D1 D2 ME MK MN MY PA SA SB SC SE SP SY TA TB YA:Option am}{U0 U2 U3 U4 U5 b b1 b6 e0 h h0 k0 k1 o s s0 t u0 u1 x y z:Rat}{v x4 x5:W}{e:aO}{T:an}
namespace Go.Proofs.YtjopfpegcckllaaGreatDoor
open Go.RowKit
theorem FA:d8 53 (af #[J false,D none 0 0,D none 0 0]) 3 56:=by unfold d8;kernel_rfl
def vM (K:Nat)(x:Rat)(w:O)(e:aO)(g:O):Prop:= ∃(m:Bool) (i ai c b:Option am) (a k j l f d:Nat),e=aw (aY #[af #[J m,D i a k,D ai j l,D c 1 f,D b 0 d],af #[H I 0,H I 0,H I 0,H I 0]])/\aL K w g (D c 1 f) [x]/\(∀w2,aU 2 w2 (D b 0 d) [])/\V w g
theorem FB (w:O):aj ae 222 #[H I 1,H I 0] w (pZ 1 0 w):=vL (m:=1) (n:=0) (by omega) (by omega) w
def p9 (m n:Nat)(p w:O)(e:aO)(b:O):Prop:= ∃(o:Bool) (c ai f d:Option am) (a i g l k j:Nat),e=aw (af #[J o,D c a i,D ai g l,D f m k,D d n j])/\Qk 2 b (af #[J o,D c a i,D ai g l]) 0/\aL 2 p b (D f m k) (List.replicate m 0)/\aL 2 p b (D d n j) (List.replicate n 0)/\V w b
theorem p9.of {m:Nat}(u:V wb w)(h:pZ m n w e ab):p9 m n wb w e ab:=by
 obtain⟨s,f,ai,AY,g,a,c,b,d,cY,i,l,h1,h2,j,k⟩:=h;exact⟨s,f,ai,AY,g,a,c,b,d,cY,i,l,h1,h2.weaken u,j.weaken u,k⟩
theorem FC {n:ay}{s:Bool}{ai:Option am}{a b d:Nat}{bits:Int}(bU:Sn dc w (D TA 1 aH) [⟨3,0,0,n⟩])(b0:c0 w (D TB 1 cB) [0])(cZ:Y (n.bd 1000))(c7:Y (Z.c9 [⟨3,0,0,n⟩] [0] 1 0=true))(b3:Fr w (af #[J s,D A a c,D ai b d]) t k)(b6:aU ky w (D YA 1 cy) [y])(b2:aU ky w (D PA 0 cp) [])(hw:aF K w (D CW 1 cw) [x])
 (c9:Y (Z.run (Ga.a5 bits) t [y] [] [⟨3,0,0,n⟩] []=(Z.aG,[y])))(db:Y (x≠0))(bW:Y ((Z.bits x:Int)<=Ga.a5 bits/\2<=Ga.a5 bits))(hb:bits=200)(cW:k<=200000)(bZ:ky<=200000)(al:2<=K/\K<=1000000):
 aj ae 211 #[af #[D TA 1 aH,D TB 1 cB,H I 1,H I 0],af #[J s,D A a c,D ai b d,D YA 1 cy,D PA 0 cp],D CW 1 cw,H I bits] w (vM K x w):=by
 subst hb;have bK:=G bU;have bP:=G b0;have ci:=G b3;have cm:=G b6;have ce:=G b2;have cl:=G hw;clear bU b0 b3 b6 b2 hw;go_enter func211,ntmps211;go_upto_region 1 with fail
 generalize Q:ah (ah (ah (ah w _) _) _) _=a5 at*;obtain⟨e,o,P,g,f⟩:=dn Q;clear Q;obtain⟨u,r,z,B⟩:=o.c4;have ao:=P.c5;have L:=g.c5;have aV:=g.free;have M:=f.c4;have aE:=f.free;go_wp2_with fail;refine(vL (m:=0) (n:=0) (by omega) (by omega) a5).mono ?_;rintro N w1 ⟨eK,ey,eA,eC,eB,eD,eF,eE,eJ,eI,eH,rfl,_,_,_,F⟩;clear M;revert e o P g f u r z B ao;refine bw F ?_;intro e o P g f u r z B ao;revert L;refine cj F ?_;intro L;replace aV:=g.free;have M:=f.c4;replace aE:=f.free;clear F;have bo:=cA u;have bq:=cA r;have br:=cA z;have bs:=cA B;have bt:=ez ao;have bD:=ez L;have bF:=g.fa;have bG:=ez M;have bH:=f.fa;go_upto_region 4 with fail
 clear bo bq br bs bt bD bF bG bH;generalize Q:ah w1 _=dy at*;obtain⟨q,aB⟩:=aC Q;clear Q;have dE:=o.lt;have dI:=P.lt;have er:=g.lt;have et:=f.lt;clear M;revert e o P g f u r z B ao;refine bw q ?_;intro e o P g f u r z B ao;revert L;refine cj q ?_;intro L;replace aV:=g.free;have M:=f.c4;replace aE:=f.free;clear q;have bj:=tD (bK.out.up (cV 0) e) (bP.out.up e) (G λi bX=>by simp at bX;subst bX;exact cZ.out) c7 (ys:=[y]) (ps:=[]) (G rfl) (G rfl) (bits:=200) (by omega) (ci.out.up e) (cm.out.up e) (ce.out.up e) cW bZ bZ;rw[c9.out]at bj;go_wp2_with fail;refine bj.mono ?_;rintro N w2 ⟨cn,rfl,bV,_,F⟩;have aY:=bV rfl;clear bV bj;obtain⟨bd,bh,(cM:cn=D bd 1 bh)⟩:=aY.form;subst cM;unfold cJ Z.aG;clear M;revert aB e o P g f u r z B ao;refine bC F ?_;intro aB e o P g f u r z B ao;revert L;refine cj F ?_;intro L;replace aV:=g.free;have M:=f.c4;replace aE:=f.free;clear F;have bo:=cA u;have bq:=cA r;have br:=cA z;have bs:=cA B;have bt:=ez ao;have bD:=ez L;have bF:=g.fa;have bG:=ez M;have bH:=f.fa;go_upto_region 7 with fail
 clear bo bq br bs bt bD bF bG bH;generalize Q:ah w2 _=aw at*;obtain⟨q,cr⟩:=aC Q;clear Q;have dF:=o.lt;have dJ:=P.lt;have es:=g.lt;have ev:=f.lt;have dD:=aB.lt;clear M;revert aY aB e o P g f u r z B ao;refine au q ?_;intro aY aB e o P g f u r z B ao;revert L;refine cj q ?_;intro L;replace aV:=g.free;have M:=f.c4;replace aE:=f.free;clear q;have cd:=G aY;have cf:=G g;have cg:=G f;have bI:=G o;have ck:=G e;have da:=f.lt;clear e aB cr P g f o aY u r z B ao L aV M aE
 go_cut [13] (λdh a8=> ∃(gb a2:Nat) (aQ:Bool) (GA aG aI GP:Option am) (aK aM aN aO aS aP:Nat),dh=az (U ⟨gb,0,none⟩)/\aw.heap.size<=gb/\aw.heap.size<=a2/\Bx 316 a8 gb [D TA 1 aH,D TB 1 cB,H I 1,H I 0,D bd 1 bh,D (U ⟨a2,0,none⟩) 1 1,J aQ,D GA aK aM,D aG aN aO,D aI 1 aS,D GP 0 aP]/\Bx 53 a8 a2 [J false,D none 0 0,D none 0 0]/\Qk 2 a8 (af #[J aQ,D GA aK aM,D aG aN aO]) 0/\aL 2 aw a8 (D aI 1 aS) [0]/\(∀w2,aU 2 w2 (D GP 0 aP) [])/\V aw a8)
 case first=>
  have e:=V.refl aw;have o:=bI.out;obtain⟨u,r,z,B⟩:=o.c4;revert e o u r z B;refine bO (V.refl aw).drew ?_;intro e o u r z B
  refine aZ ?_;refine a3 (S:=λca=>V aw ca/\Cz ca (w.heap.size) 0 [D TA 1 aH,D TB 1 cB,H I 1,H I 0]) (by kernel_rfl) (by exact⟨e,o.cz⟩) (λaT=> ?_);generalize aw.drew=aJ at*;refine aa 0 ?_;refine aa 1 ?_;refine aa 2 ?_;refine aa 3 ?_;refine aa 5 ?_;refine aa 6 ?_;refine aa 7 ?_;refine aa 8 ?_
  repeat' first
   |(have al:=b1;clear b1
     (try clear aT)
     refine fm (by rfl) ?_;refine uG underlying44 FA (by decide) (.tmp 44) (.tmp 44) (by rfl) 1 (by rfl) (by rfl) rfl (by decide) ?_;intro bf b7 q;have mk:Bx 53 bf aJ.heap.size [J false,D none 0 0,D none 0 0]:=by simpa[madeCells,List.range_succ,Value.cells]using b7
     clear b7;have dH:=o.lt;have dd:=e.size
     try(have dM:=l.lt)
     try(replace zt:=zt.up q)
     try(replace bb:=bb.up q)
     try(replace ba:=ba.up q)
     replace o:=o.up q
     try(replace l:=l.up q)
     replace e:=e.trans q;clear q;generalize aJ.heap.size=bv at*;obtain⟨aJ,bz⟩:∃a5,a5=bf:=⟨_,rfl⟩;subst bz;clear u r z B;obtain⟨u,r,z,B⟩:=o.c4;refine ax al (by exact⟨e,o.cz⟩) (λaT=> ?_);clear al K)
   |(have al:=b4;clear b4
     (try clear aT)
     go_simp;go_at_call 222
     with_reducible refine((FB aJ).mono λ_ _ cQ=>p9.of e cQ).mono ?_
     rintro N aJ ⟨aQ,GA,aG,aI,GP,aK,aM,aN,aO,aS,aP,rfl,zt,bb,ba,bi⟩;refine gZ bi o e u r z B ?_;clear o e u r z B;intro o e u r z B
     try(replace mk:=mk.up bi)
     try(replace l:=l.up bi)
     clear bi
     try go_wp2_with fail
     refine ax al (by exact⟨e,o.cz⟩) (λaT=> ?_);clear al K)
   |(have al:=bY;clear bY
     (try clear aT)
     refine fm (by rfl) ?_;refine kM (T:=316) (v:=af #[D TA 1 aH,D TB 1 cB,H I 1,H I 0,D bd 1 bh,D (U ⟨bv,0,none⟩) 1 1,J aQ,D GA aK aM,D aG aN aO,D aI 1 aS,D GP 0 aP]) (.tmp 51) (by rfl) (cs:=[D TA 1 aH,D TB 1 cB,H I 1,H I 0,D bd 1 bh,D (U ⟨bv,0,none⟩) 1 1,J aQ,D GA aK aM,D aG aN aO,D aI 1 aS,D GP 0 aP]) (by rfl) (by rfl) ?_;intro bf l q;have dG:=o.lt;have cG:=e.size
     try(have ep:=mk.lt)
     try(replace zt:=zt.up q)
     try(replace bb:=bb.up q)
     try(replace ba:=ba.up q)
     replace o:=o.up q
     try(replace mk:=mk.up q)
     replace e:=e.trans q;clear q;generalize aJ.heap.size=cN at*;obtain⟨aJ,bz⟩:∃a5,a5=bf:=⟨_,rfl⟩;subst bz;clear u r z B;obtain⟨u,r,z,B⟩:=o.c4;refine ax al (by exact⟨e,o.cz⟩) (λaT=> ?_);clear al K)
   |(with_reducible show b5 _ _ _ _ _ _ _ _ _ _
     first
      |refine av (i:=4) rfl (λK b1=> ?_) ?_
      |refine av (i:=9) rfl (λK b4=> ?_) ?_
      |refine av (i:=11) rfl (λK bY=> ?_) ?_
      |exact bm)
   |(with_reducible show bJ _ _ _ _ _ _ _ _ _
     first
      |refine ak [4,9] ?_
      |refine ak [4] ?_
      |refine ak [9] ?_
      |refine ak [11] ?_
      |refine aa 10 ?_
      |refine aa 12 ?_
      |refine aW (by decide +kernel) (aX ?_) _)
   |fail
  all_goals try clear aT
  all_goals have eo:=mk.c3
  all_goals have dL:=l.ek
  all_goals
   have cX:=dd;have cY:=cG;go_wp2_with fail
   go_meet
   exact⟨cN,bv,aQ,GA,aG,aI,GP,aK,aM,aN,aO,aS,aP,rfl,cY,cX,l,mk,zt,bb,λ_=>jA (aA.sq ba) _,e⟩
 case rest=>
  obtain⟨gb,a2,aQ,GA,aG,aI,GP,aK,aM,aN,aO,aS,aP,rfl,dZ,d0,l,X,gt,bT,cO,a1⟩:=hcut;have g:=cf.out.up a1;have f:=cg.out.up a1;have e:=ck.out.trans a1;have dt:=G (cd.out.up a1);obtain⟨cq,dg,rfl,cU,bB⟩:=bP.out.at_ (k:=0) (by simp);obtain⟨bx,sw,dk,ej,dS,dr,el,dU,rfl,bA,bu,d1,d2,qw⟩:=cl.out.lv (j:=0) (by simp);simp only[Nat.zero_mul,Nat.add_zero,List.getElem_cons_zero]at bB bu d1 d2 qw;have c6:=(e.cell (p:=⟨cq,dg,none⟩) cU).trans bB;have cI:=(e.cell (p:=⟨bx,0,none⟩) bA).trans bu;have cK:=(e.cell (p:=⟨bx,0+1,none⟩) bA).trans d1;have cL:=(e.cell (p:=⟨bx,0+2,none⟩) bA).trans d2;have o:=bI.out.up a1;have d9:=l.lt;have ea:=X.lt;have dX:w.heap.size+1+1+1<aw.heap.size:=da;clear a1 bB bu d1 d2;have L:=g.c5;have aV:=g.free;have M:=f.c4;have aE:=f.free;have r:=o.k 1;go_wp2_with fail;refine wp_loop_rounds 2 ?_;rw[a9];go_wp2_with fail;have bQ:Y (0+x=x):=G (Rat.zero_add x);have bk:=Ft (K:=K) l X ((Fz wc).mono al.1) (qw.up e).fr (G (by rw[bQ.out];exact qw.lq)) (by omega);rw[bQ.out]at bk;refine bk.mono ?_;clear bk;rintro N w3 ⟨rfl,sc,dj,dp,ac,dP,dK,fT,ab,ar,E⟩;obtain⟨bS,ew,dm,ek,dT,ds,en,dV,fs,rfl,dY,R,aq,ch⟩:=nB bT
  have c3:bS≠a2:=λN=>by
   subst N;unfold Bx at R X;rw[R]at X;injection X with X
   injection X with X _
   simp at X;exact aq.some (by first|exact X.1.2.2.2|exact X.2.2.1.2|simp_all)
  have c4:gb≠a2:=λN=>by(subst N;exact absurd (gh l X) (by decide))
  have c5:gb≠bS:=λN=>by(subst N;exact absurd (gh l R) (by decide))
  have ec:=R.lt;replace R:=E.bx R c3;replace aq:=aq.kw E.gb.2;replace l:=E.bx l c4;replace g:=E.bx g (by omega);replace f:=E.bx f (by omega);replace gt:=gt.kw E.gb.2;replace e:=E.gb.du e (by omega);have aY:=E.gb.2;have ed:=E.gb.1.size;clear X E c6 cI cK cL bT o;go_wp2_with fail;rw[a9];go_wp2_with fail;refine(kq (by omega) w3).mono ?_;rintro N w4 ⟨dW,rfl,a7,d7,F⟩;have d8:=ab.lt;revert ab ar R aq l g f gt e;refine bE F ?_;intro ab ar R aq l g f gt e
  have eb:=a7.lt;clear F;go_wp2_with fail;refine wp_loop_rounds 2 ?_;rw[a9];have P:=l.k 5;have cH:=ab.k 0;have c1:=ab.k 1;have c2:=ab.k 2;go_wp2_with fail;refine(dx ar.fr (by omega)).mono ?_;rintro N w5 ⟨dv,rfl,nq,F⟩;have ee:=F.size;revert a7 ab ar R aq l g f gt e;revert F;refine eG ?_;intro a7 ab ar R aq l g f gt e
  have bR:=G (Qw.sz nq ar.lq);obtain⟨dA,dB,rfl,de,df⟩:=nq;clear P cH c1 c2 de df;go_wp2_with fail;refine(o3 a7 bR.out (by omega) (by omega)).mono ?_;rintro N w6 ⟨rfl,aD,C⟩;rw[decide_eq_true bW.out.1];have eg:=C.1.size;replace R:=C.bx R (by omega);replace aq:=aq.kw C.2;replace l:=C.bx l (by omega);replace g:=C.bx g (by omega);replace f:=C.bx f (by omega);replace gt:=gt.kw C.2;replace ab:=C.bx ab (by omega);replace ar:=ar.kw C.2;replace e:=C.du e (by omega);clear a7 C bR;go_wp2_with fail;refine(Fv l (bK.out.up (cV 0) e) ab ar R aq db al.2).mono ?_;rintro N w7 ⟨rfl,sn,An,dq,dC,dQ,dN,dR,cb,b9,E⟩;have eh:=E.gb.1.size;replace l:=E.bx l c5;replace g:=E.bx g (by omega);replace f:=E.bx f (by omega);replace gt:=gt.kw E.gb.2;replace aD:=E.bx aD (by omega);replace e:=E.gb.du e (by omega);clear E R aq ab ar;go_wp2_with fail;rw[a9];have an:=ch _ _ _ _ _ _ _ _ _ _ cb b9;have ct:=l.k 6;have cu:=l.k 7;have cv:=l.k 8;have cx:=l.k 9;have aB:=l.k 10;go_wp2_with fail;refine(Fy (gt.mono al.1) (aA.weaken an (Nat.zero_le _))).mono ?_;rintro N ex ⟨dw,dO,rfl,bl,F⟩;have ei:=F.size;clear cb b9;revert l g f gt aD;refine b8 F ?_;intro l g f gt aD
  replace an:=aA.up (aR K) an F;replace e:=e.trans F;clear F ct cu cv cx aB;have c8:=pE bl aD;have du:Y ([0,x].map Z.bits=[Z.bits 0,Z.bits x]):=G rfl
  have cc:Y (Ga.bad (Ga.a5 200) ([0,x].map Z.bits)=2):=G (by
   have cR:=bW.out.1;have cS:(Z.bits 0:Int)<=Ga.a5 200:=by decide +kernel
   show Ga.bad (Ga.a5 200) [Z.bits 0,Z.bits x]=2;unfold Ga.bad Ga.bad Ga.bad;rw[if_pos cS,if_pos cR])
  have bL:=o4 aD bl.hg c8 (by omega) (by simp) (by omega);go_wp2_with fail;refine bL.mono ?_;clear bL;rintro N di ⟨rfl,cP,C⟩;rw[cc.out,List.length_map,show[0,x].length=2 from rfl,decide_eq_true rfl];replace l:=C.bx l (by omega);replace g:=C.bx g (by omega);replace f:=C.bx f (by omega);replace an:=aA.kept (aR K) an C.2 C.1 (.inr (eu an aD (by decide)));replace e:=C.du e (by omega);clear bl aD cP C gt;have L:=g.c5;have aV:=g.free;have M:=f.c4;have aE:=f.free;have cC:=l.k 6;have cD:=l.k 7;have cE:=l.k 8;have cF:=l.k 9;have cz:=l.k 10;go_wp2_with fail;generalize Q:ag (ag (ag (ag (ag di _ _) _ _) _ _) _ _) _ _=co at*;have W:=e8 g Q;clear Q;replace an:=ef (aR K) an W (by decide);replace f:=f.bs W;replace l:=l.bs W;replace g:=W.new;replace e:=e.bs W;clear W;clear L M cC cD cE cF cz;have L:=g.c5;have M:=f.c4;replace aE:=f.free;generalize Q:ag (ag (ag (ag co _ _) _ _) _ _) _ _=dz at*;have W:=bp f Q;clear Q;replace an:=ef (aR K) an W (by decide);replace g:=g.bs W;replace l:=l.bs W;replace f:=W.new;replace e:=e.bs W;clear W;clear L M;have L:=g.c5;have M:=f.c4;exact a4 (gl rfl rfl rfl vH vI bM bN g rfl f rfl) rfl ⟨_,_,_,_,_,_,_,_,_,_,_,rfl,aA.weaken an (by omega),cO,e⟩
theorem qa (w:O):(isAgg 84).run ae w= .ok true w:=by kernel_rfl
theorem qc (w:O):(sizeOf 84).run ae w= .ok 2 w:=by kernel_rfl
def FD (k n:Nat)(rs:List Rat)(w:O)(e:aO)(c:O):Prop:= ∃a b,e=aw (aY #[D a n b,J true])/\aL k w c (D a n b) rs/\V w c
theorem qd {u:W}{ka kb:Nat}{ps rs:List Rat}(hb:Bx 44 w g [v,u])(h1:aU ka w v ps)(h2:aU kb w u qs)(c:qs.length=ps.length)(k:Y (List.zipWith (λx y=>x+y) ps qs=rs))(j:Y (rs.length=n))(i:Y (∀q∈rs,E.Lq q K))(p:ps.length<=1000)(r:ka<=1000000)(s:kb<=1000000):
 aj ae 118 #[D (U ⟨g,0,none⟩) 2 2] w (FD K n rs w):=
 (mR hb h1.sq h2.sq c (by omega) (by omega) (by omega)).mono λo t ⟨m,b,a,l⟩=>by
   rw[tu c,k.out]at a;obtain⟨d,e,f⟩:=a.form;subst f;rw[j.out]at b a;exact⟨d,e,b,a.re i.out,l⟩
def vO (K:Nat)(z:Rat)(w:O)(e:aO)(d:O):Prop:= ∃(a B:Option am) (b c:Nat),e=aw (aY #[af #[D a 1 b,D B 0 c],J true])/\aL K w d (D a 1 b) [z]/\(∀w2,aU 2 w2 (D B 0 c) [])/\V w d
theorem vP {YB PB:Option am}(h1:aU k w (D YA 1 c1) [x])(h2:aU k w (D YB 1 c3) [y])(f:aU 2 w (D PA 0 c2) [])(g:aU 2 w (D PB 0 c4) [])(Q:Y (E.Lq (x+y) K))(H:2<=k/\k<=1000000):
 aj ae 159 #[af #[D YA 1 c1,D PA 0 c2],af #[D YB 1 c3,D PB 0 c4]] w (vO K (x+y) w):=by
 go_enter func159,ntmps159;go_upto_region 1 with fail
 generalize i:ah (ah (ah w _) _) _=L at*;obtain⟨e,b,c,a⟩:=dm i;clear i;revert h1 h2 f g;refine bf e ?_;intro h1 h2 f g;have j:=b.c2;have l:=c.c2;have m:=a.c2;have u:=a.free;have z:=b.d2;have A:=c.d2;have C:=a.d2;have F:=a.fa;go_wp2_with fail;clear z A C F;generalize i:ah L _=V at*;obtain⟨t,d⟩:=aC i;clear i;have aa:=b.lt;have ai:=c.lt;have ao:=a.lt;revert e b c a h1 h2 f g j l m;refine bC t ?_;intro e b c a h1 h2 f g j l m;replace u:=a.free;clear t;have v:=d.c2;have J:=G e
 with_reducible refine(qd (n:=1) (rs:=[x+y]) d h1 h2 rfl (G rfl) (G rfl) (G λq B=>by rw[List.mem_singleton.1 B];exact Q.out) (by simp) H.2 H.2).mono ?_
 rintro P M ⟨T,al,rfl,r,u2⟩;revert d e b c a h1 h2 f g j l m;refine au u2 ?_;intro d e b c a h1 h2 f g j l m;replace u:=a.free;replace v:=d.c2;clear u2;clear h1 h2;have z:=b.d2;have A:=c.d2;have C:=a.d2;have F:=a.fa;have S:=d.d2;go_wp2_with fail;clear z A C F S;generalize i:ah M _=W at*;obtain⟨t,s⟩:=aC i;clear i;have Z:=b.lt;have ab:=c.lt;have an:=a.lt;have aq:=d.lt;revert r d e b c a f g j l m;refine bC t ?_;intro r d e b c a f g j l m;replace u:=a.free;replace v:=d.c2;clear t;have I:=s.c2;have U:=G e
 with_reducible refine(qd (K:=2) (n:=0) (rs:=[]) s f g rfl (G rfl) (G rfl) (G λq B=>absurd B (List.not_mem_nil)) (by simp) (by decide) (by decide)).mono ?_
 rintro P N ⟨Ap,ak,rfl,p,u4⟩;revert s r d e b c a f g j l m;refine au u4 ?_;intro s r d e b c a f g j l m;replace u:=a.free;replace v:=d.c2;replace I:=s.c2;clear u4;go_wp2_with fail;have R:=p.q;clear f g p;generalize i:ag (ag N _ _) _ _=X at*;have o:=dp a i;clear i;replace r:=ef (aR _) r o (by decide);replace b:=b.bs o;replace c:=c.bs o;replace d:=d.bs o;replace s:=s.bs o;replace a:=o.new;replace e:=e.bs o;clear o;replace j:=b.c2;replace l:=c.c2;replace m:=a.c2;replace v:=d.c2;replace I:=s.c2;exact a4 (ia rfl rfl qa qc a rfl) rfl ⟨_,_,_,_,rfl,aA.weaken r J.out.size,λw2=>jA R w2,e⟩
theorem vQ {b:Int}(t:Bx 253 w gm cs)(D:cs[25]? =U (az (U ⟨gg,0,none⟩)))(hb:Bx 154 w gg [H I a,H I b,H I L])(h:aF k w v qs)(E:k<=1000000)(X:qs.length<=1000)(ha:0<=a/\a<=1000000)(s:Ga.bad L (qs.map Z.bits)=qs.length):
 aj ae 189 #[az (U ⟨gm,0,none⟩),v,H I i] w (tT gg L a Z.aG qs.length w):=by
 have F:=pE h hb;obtain⟨Q,c,rfl⟩:=h.form;have A:=G h.hg;have l:Y ((qs.map Z.bits).length=qs.length):=G (by simp);have j:=G s;clear s;have x:=t.cell D;generalize qs.map Z.bits=aa at*;have C:V w (w.alloc (ao #[H I 0,H I 0,H I 0,H I 0] 63)):=(V.refl w).alloc _;have z:=G hb.lt;clear t h;have J:=λB=>cx (o:=B) x
 go_enter func189,ntmps189;go_wp2_with fail;generalize q:ah w _=R at*;obtain⟨f,e⟩:=aC q;clear q;replace hb:=hb.up f;have N:=e.c4;have P:=e.free;have p:=f
 ((with_reducible refine(o4 hb (A.out.up (hE k) f) F E (by have:=l.out;omega) (by omega)).mono ?_))
 rintro T S ⟨rfl,r,g⟩;have u:gg≠w.heap.size:=by have:=z.out;omega
 have n:=G (g.bx e u.symm);have y:=G ((Gb.up p).trans g);have m:=G r;have e:=n.out;clear C p f hb r g x J;have N:=e.c4;have P:=e.free;rw[j.out,l.out]at m;rw[j.out,l.out,decide_eq_true rfl];clear j;go_wp2_with fail;obtain⟨q1,K,M⟩:=pF (a:=0) (b:=0) (c:=0) (d:=0) y.out n.out (a8 _);exact a4 (cl rfl rfl bM bN K rfl) rfl ⟨_,_,rfl,M u m.out,by omega,q1⟩
theorem FE {nm:ByteArray}{x6:W}(z:Bx 253 w gm [D TA 1 aH,D TB 1 cB,H I 1,H I 0,al nm,D SC 2 cc,D SA 2 ca,D SB 2 cb,D SE 2 ce,D PA 0 cp,H I 200,J s1,D A1 n1 c1,D D1 m1 d1,J s2,D A2 n2 c2,D D2 m2 d2,D CW 1 cw,D MY 2 cY,D MK nK cK,D MN nN gU,D ME nE cE,x4,x5,x6,az (U ⟨gg,0,none⟩)])(t:aF 1 w (D SB 2 cb) [b6,b1])(y:Fr w (af #[J s2,D A2 n2 c2,D D2 m2 d2]) h kh)(hw:aU K w (D CW 1 cw) [x])(aK:kh<=100000/\K<=100000):
 aj ae 210 #[az (U ⟨gm,0,none⟩),H I 1] w (dT (kh+(1+K)) (Pq.sc h (Pq.sc b1 [x])) w):=by
 obtain⟨s,aP,ay,aA,B2,aB,F,aL,ab,aI,X,aM,ag,aJ,Z,more,rfl,b,q1,B⟩:=iA t;have L:=G y;have N:=G hw;have M:=G B.fr;clear y hw q1 B t;have c:=V.refl w;have a:=z;clear z;go_enter func210,ntmps210;have ai:=a.k 4;have an:=a.k 5;have ao:=a.k 6;have aq:=a.k 7;have ar:=a.k 8;have n:=a.k 14;have o:=a.k 15;have p:=a.k 16;have e:=a.k 17;go_wp2_with fail;clear ai an ao aq ar n o p e;go_upto_region 2 with fail
 generalize v:ah w _=r at*;obtain⟨au,d⟩:=aC v;clear v;have aN:=a.lt;have aO:=b.lt;revert b c a;revert au;refine bX ?_;intro b c a;have q:=d.c5;have e:=a.k 17;have f:=b.k 3;have g:=b.k 4;have j:=b.k 5;revert d b c a e f g j;refine b9 (V.refl r).drew ?_;intro d b c a e f g j;replace q:=d.c5;refine aZ ?_;refine a3 (S:=λl=>V w l/\Cz l gm 17 [D CW 1 cw]/\Cz l s 3 [J ay,D B2 ab X,D F ag Z]/\Cz l (w.heap.size) 0 [al nm,D SC 2 cc,D SA 2 ca,D (U ⟨s,0,none⟩) 2 cb,D SE 2 ce]) (by kernel_rfl) (by exact⟨c,a.cy 17 1,b.cy 3 3,d.cz⟩) (λm=> ?_);generalize r.drew=Q at*;refine aa 0 ?_;refine aa 1 ?_;refine aa 2 ?_;refine aa 3 ?_;refine aa 4 ?_;refine aa 5 ?_;refine aa 6 ?_;refine aa 7 ?_;refine aa 8 ?_
 repeat' first
  |(have u:=A;clear A
    (try clear m)
    go_simp;go_at_call 29
    with_reducible refine(he (M.out.up c) ((N.out.up c).sq) (by simp) (by omega) (by omega)).mono ?_
    rintro T Q ⟨aE,rfl,k,C⟩;revert d b c a e;refine b8 C ?_;intro d b c a e
    clear f g j;have f:=b.k 3;have g:=b.k 4;have j:=b.k 5;replace q:=d.c5;clear C;obtain⟨E,R,(Y:_=D E 1 R)⟩:=k.form;subst Y
    try go_wp2_with fail
    refine ax u (by exact⟨c,a.cy 17 1,b.cy 3 3,d.cz⟩) (λm=> ?_);clear u K)
  |(with_reducible show b5 _ _ _ _ _ _ _ _ _ _
    first
     |refine av (i:=9) rfl (λK A=> ?_) ?_
     |exact bm)
  |(with_reducible show bJ _ _ _ _ _ _ _ _ _
    first
     |refine ak [9] ?_
     |refine aa 10 ?_
     |refine aW (by decide +kernel) (aX ?_) _)
  |fail
 all_goals try clear m
 go_wp2_with fail;refine wp_loop_rounds 1 ?_;rw[a9];have n:=a.k 14;have o:=a.k 15;have p:=a.k 16;have P:=G c;go_wp2_with fail
 with_reducible refine(he (L.out.up c) k.fs.sq (by simp[Pq.sc]) (by omega) (by omega)).mono ?_
 rintro T aG ⟨aD,rfl,aw,u52⟩;clear e n o p f g j;revert d b c a k;refine b8 u52 ?_;intro d b c a k;replace q:=d.c5;clear u52;go_wp2;go_ret;exact⟨_,rfl,aw.weaken P.out,c⟩
theorem FF {Ky hG:Nat}{SA:Option am}{nm:ByteArray}{RA Y1:Option am}{p8:Nat}{x0:W}{FG:List W}(ar:Bx 253 w gm [D TA 1 aH,D TB 1 cB,H I 1,H I 0,al nm,D SC 2 cc,D (U ⟨hG,0,none⟩) 2 ca,D SB 2 cb,D SE 2 ce,D PA 0 cp,H I 200,J s1,D A1 n1 c1,D D1 m1 d1,J s2,D A2 n2 c2,D D2 m2 d2,D CW 1 cw,D MY 2 cY,D MK nK cK,D MN nN gU,D ME nE cE,D (U ⟨gy,0,none⟩) 2 2,x4,x5,az (U ⟨gg,0,none⟩)])(ai:aF 1 w (D SB 2 cb) [b6,b1])(ag:Bx 44 w hG ([x0,D RA 1 p8]++FG))(an:aF 1 w (D RA 1 p8) [o])(ao:Bx 44 w gy [D none 0 0,D Y1 1 cy])(aw:aU Ky w (D Y1 1 cy) [y])(Q:Fr w (af #[J s2,D A2 n2 c2,D D2 m2 d2]) h kh)(hw:aU K w (D CW 1 cw) [x])(bL:kh<=100000/\K<=100000/\Ky<=100000):
 aj ae 210 #[az (U ⟨gm,0,none⟩),H I 0] w (dT (kh+(1+K+(1+Ky)+1)) (Pq.sc h (Pq.zt (Pq.sc b6 [x]) (Pq.sc o [y]) 1)) w):=by
 obtain⟨R,bs,bX,aG,B2,aJ,bu,ba,bM,aY,bG,bd,bN,a7,bH,more,rfl,b,q1,bp⟩:=iA ai;obtain⟨gr,bt,aI,aK,bb,a1,bf,a8,bI,rfl,_,c,ay,_⟩:=nB an;have aL:=G Q;have aO:=G hw;have aM:=G q1.fr;have aN:=G ay.fr;have aP:=G aw;clear Q hw q1 bp ay ai an aw;have d:=V.refl w;have a:=ar;have f:=ag;have g:=ao;clear ar ag ao;go_enter func210,ntmps210;have bj:=a.k 4;have bk:=a.k 5;have bl:=a.k 6;have bn:=a.k 7;have bo:=a.k 8;have X:=a.k 14;have Y:=a.k 15;have Z:=a.k 16;have j:=a.k 17;go_wp2_with fail;clear bj bk bl bn bo X Y Z j;go_upto_region 2 with fail
 generalize P:ah w _=ab at*;obtain⟨N,e⟩:=aC P;clear P;have bP:=a.lt;have bU:=b.lt;have bD:=f.lt;have bR:=c.lt;have bY:=g.lt;revert b c d a f g;revert N;refine dX ?_;intro b c d a f g;have M:=e.c5;have j:=a.k 17;have k:=b.k 0;have l:=b.k 1;have m:=b.k 2;revert e b c d a f g j k l m;refine bC (V.refl ab).drew ?_;intro e b c d a f g j k l m;replace M:=e.c5;refine aZ ?_;refine a3 (S:=λp=>V w p/\Cz p gm 17 [D CW 1 cw]/\Cz p R 0 [J bs,D aG ba aY,D aJ bd a7]/\Cz p (w.heap.size) 0 [al nm,D SC 2 cc,D (U ⟨hG,0,none⟩) 2 ca,D (U ⟨R,0,none⟩) 2 cb,D SE 2 ce]) (by kernel_rfl) (by exact⟨d,a.cy 17 1,b.cy 0 3,e.cz⟩) (λq=> ?_);generalize ab.drew=t at*;refine aa 0 ?_;refine aa 1 ?_;refine aa 2 ?_;refine aa 3 ?_;refine aa 4 ?_;refine aa 5 ?_;refine aa 6 ?_;refine aa 7 ?_;refine aa 8 ?_
 repeat' first
  |(have r:=bi;clear bi
    (try clear q)
    go_simp;go_at_call 29
    with_reducible refine(he (aM.out.up d) ((aO.out.up d).sq) (by simp) (by omega) (by omega)).mono ?_
    rintro T t ⟨bA,rfl,s,n⟩;revert e b c d a f g j;refine b9 n ?_;intro e b c d a f g j
    clear k l m;have k:=b.k 0;have l:=b.k 1;have m:=b.k 2;replace M:=e.c5;clear n;obtain⟨aE,aT,(a5:_=D aE 1 aT)⟩:=s.form;subst a5
    try go_wp2_with fail
    refine ax r (by exact⟨d,a.cy 17 1,b.cy 0 3,e.cz⟩) (λq=> ?_);clear r K)
  |(with_reducible show b5 _ _ _ _ _ _ _ _ _ _
    first
     |refine av (i:=9) rfl (λK bi=> ?_) ?_
     |exact bm)
  |(with_reducible show bJ _ _ _ _ _ _ _ _ _
    first
     |refine ak [9] ?_
     |refine aa 10 ?_
     |refine aW (by decide +kernel) (aX ?_) _)
  |fail
 all_goals try clear q
 go_wp2_with fail;refine wp_loop_rounds 2 ?_;rw[a9];go_wp2_with fail;have v:=a.k 22;have u:=f.k 1;have z:=c.k 0;have A:=c.k 1;have B:=c.k 2;have E:=g.k 1;revert e b c d a f g j k l s v;refine au (V.refl t).drew ?_;intro e b c d a f g j k l s v;revert m u z A B E;refine bO (V.refl t).drew ?_;intro m u z A B E;replace M:=e.c5;refine aZ ?_;refine a3 (S:=λp=>V w p/\Cz p gm 17 [D CW 1 cw]/\Cz p gm 22 [D (U ⟨gy,0,none⟩) 2 2]/\Cz p hG 1 [D (U ⟨gr,0,none⟩) 1 p8]/\Cz p gr 0 [J bt,D aI bb a1,D aK bf a8]/\Cz p gy 1 [D Y1 1 cy]/\Cz p (w.heap.size) 0 [al nm,D SC 2 cc,D (U ⟨hG,0,none⟩) 2 ca,D (U ⟨R,0,none⟩) 2 cb,D SE 2 ce]) (by kernel_rfl) (by exact⟨d,a.cy 17 1,a.cy 22 1,f.cy 1 1,c.cy 0 3,g.cy 1 1,e.cz⟩) (λq=> ?_);generalize t.drew=t at*;refine aa 0 ?_;refine aa 1 ?_;refine aa 2 ?_;refine aa 3 ?_;refine aa 4 ?_;refine aa 5 ?_;refine aa 6 ?_;refine aa 7 ?_;refine aa 8 ?_;refine aa 9 ?_;refine aa 10 ?_;refine aa 11 ?_;refine aa 12 ?_;refine aa 13 ?_;refine aa 14 ?_;refine aa 15 ?_
 repeat' first
  |(have r:=aD;clear aD
    (try clear q)
    go_simp;go_at_call 29
    with_reducible refine(he (aN.out.up d) ((aP.out.up d).sq) (by simp) (by omega) (by omega)).mono ?_
    rintro T t ⟨bv,rfl,L,n⟩;revert e b c d a f g j s v;refine bw n ?_;intro e b c d a f g j s v
    try(replace F:=F.up n)
    try(replace C:=C.up n)
    clear k l m;have k:=b.k 0;have l:=b.k 1;have m:=b.k 2;clear u;have u:=f.k 1;clear z A B;have z:=c.k 0;have A:=c.k 1;have B:=c.k 2;clear E;have E:=g.k 1;replace M:=e.c5;clear n;obtain⟨aB,aS,(a4:_=D aB 1 aS)⟩:=L.form;subst a4
    try go_wp2_with fail
    refine ax r (by exact⟨d,a.cy 17 1,a.cy 22 1,f.cy 1 1,c.cy 0 3,g.cy 1 1,e.cz⟩) (λq=> ?_);clear r K)
  |(have r:=aV;clear aV
    (try clear q)
    go_simp;have bQ:=a.lt;have bV:=b.lt;have bF:=f.lt;have bS:=c.lt;have bZ:=g.lt;have bT:=e.lt;have bW:=d.size;generalize aq:t.heap.size=bK at*;generalize P:ah t _=t at*;obtain⟨N,C⟩:=b3 P aq;clear P aq;revert e b c d a f g j s v;refine bw N ?_;intro e b c d a f g j s v
    try(replace L:=L.up N)
    try(replace F:=F.up N)
    clear k l m;have k:=b.k 0;have l:=b.k 1;have m:=b.k 2;clear u;have u:=f.k 1;clear z A B;have z:=c.k 0;have A:=c.k 1;have B:=c.k 2;clear E;have E:=g.k 1;replace M:=e.c5;clear N;refine ax r (by exact⟨d,a.cy 17 1,a.cy 22 1,f.cy 1 1,c.cy 0 3,g.cy 1 1,e.cz⟩) (λq=> ?_);clear r K)
  |(have r:=bh;clear bh
    (try clear q)
    go_simp;go_at_call 118
    with_reducible refine((mR C s.fs.sq L.fs.sq rfl (by simp[Pq.sc]) (by omega) (by omega)).mono λ_ _ Q=>m0.of d Q).mono ?_
    rintro T t ⟨bx,rfl,F,n⟩;revert e b c d a f g j s v;refine bw n ?_;intro e b c d a f g j s v
    try(replace L:=L.up n)
    try(replace C:=C.up n)
    clear k l m;have k:=b.k 0;have l:=b.k 1;have m:=b.k 2;clear u;have u:=f.k 1;clear z A B;have z:=c.k 0;have A:=c.k 1;have B:=c.k 2;clear E;have E:=g.k 1;replace M:=e.c5;clear n;obtain⟨aA,aR,(a2:_=D aA 1 aR)⟩:=F.form;subst a2
    try go_wp2_with fail
    refine ax r (by exact⟨d,a.cy 17 1,a.cy 22 1,f.cy 1 1,c.cy 0 3,g.cy 1 1,e.cz⟩) (λq=> ?_);clear r K)
  |(with_reducible show b5 _ _ _ _ _ _ _ _ _ _
    first
     |refine av (i:=16) rfl (λK aD=> ?_) ?_
     |refine av (i:=17) rfl (λK aV=> ?_) ?_
     |refine av (i:=18) rfl (λK bh=> ?_) ?_
     |exact bm)
  |(with_reducible show bJ _ _ _ _ _ _ _ _ _
    first
     |refine ak [16] ?_
     |refine ak [17] ?_
     |refine ak [18] ?_
     |refine aa 19 ?_
     |refine aa 20 ?_
     |refine aa 21 ?_
     |refine aa 22 ?_
     |refine aW (by decide +kernel) (aX ?_) _)
  |fail
 all_goals try clear q
 all_goals have br:=C.c2
 go_wp2_with fail;rw[a9];have X:=a.k 14;have Y:=a.k 15;have Z:=a.k 16;clear s L;have aQ:=G d;go_wp2_with fail
 with_reducible refine(he (aL.out.up d) F.fs.sq (by simp[Pq.sc,Pq.zt]) (by omega) (by omega)).mono ?_
 rintro T bB ⟨bz,rfl,bq,u52⟩;clear j v X Y Z k l m u z A B E;revert e b c d a f g C F;refine bE u52 ?_;intro e b c d a f g C F;replace M:=e.c5;replace br:=C.c2;clear u52;go_wp2;go_ret;exact⟨_,rfl,bq.weaken aQ.out,d⟩
def Z.qb (n z o h:ay)(nm:ByteArray):Pb:=⟨[⟨3,0,0,n⟩],[0],1,0,nm,[z,o],[[],[o]],[h,h],[o,z],[],200⟩
def FH (w:O)(e:aO)(i:O):Prop:= ∃(g:Bool) (a ai:Option am) (f b d c:Nat) (mo:Rat),e=aw (af #[J g,D a f b,D ai d c])/\Fr i (af #[J g,D a f b,D ai d c]) mo 200000/\V w i
theorem FI {n z o h:ay}{nm:ByteArray}(b:c7 kp w [D TA 1 aH,D TB 1 cB,H I 1,H I 0,al nm,D SC 2 cc,D SA 2 ca,D SB 2 cb,D SE 2 ce,D PA 0 cp,H I 200] (Z.qb n z o h nm))(c:Y (eD (Z.qb n z o h nm)))(k:j<2)(d:Fr w (af #[J s1,D A1 n1 c1,D D1 m1 d1]) t 90000)(a:Fr w (af #[J s2,D A2 n2 c2,D D2 m2 d2]) h0 90000):
 aj ae 117 #[af #[D TA 1 aH,D TB 1 cB,H I 1,H I 0,al nm,D SC 2 cc,D SA 2 ca,D SB 2 cb,D SE 2 ce,D PA 0 cp,H I 200],af #[J s1,D A1 n1 c1,D D1 m1 d1],af #[J s2,D A2 n2 c2,D D2 m2 d2],H I (j:Int)] w (FH w):=by
 obtain⟨_,_,_,_,_,_,_,_,_,_,_,_,_,_,_,_,_,f,_⟩:=id b;have g:=(f.c.aN c.out.iq.c (by omega)).lq
 exact(tP b c (i:=j) k d a (by omega) (by omega)).mono λA E l=>by
  obtain⟨s,rfl,q,m⟩:=l;obtain⟨u,v,rfl,q,e⟩:=q;obtain⟨p,C,x,rfl⟩:=q.shape;obtain⟨r,B,y,rfl⟩:=e.shape;exact⟨_,_,_,_,_,_,_,_,rfl,(il q e).fr ((d.lq.add (a.lq.mul (hH g j))).mono (by omega)),m⟩
theorem FJ {n z o h:ay}{nm:ByteArray}(f:c7 kp w [D TA 1 aH,D TB 1 cB,H I 1,H I 0,al nm,D SC 2 cc,D SA 2 ca,D SB 2 cb,D SE 2 ce,D PA 0 cp,H I 200] (Z.qb n z o h nm)):Sn dc w (D TA 1 aH) [⟨3,0,0,n⟩]/\c0 w (D TB 1 cB) [0]/\eg w (D SC 2 cc) (D SA 2 ca) (D SB 2 cb) (D SE 2 ce) [z,o] [[],[o]] [h,h] [o,z]/\aU kp w (D PA 0 cp) []:=by
 obtain⟨g,q,i,r,j,s,k,t,l,u,m,v,p,x,a,e,b,d,c⟩:=f;simp only[Z.qb,List.cons.injEq,Value.slice.injEq,List.length_cons,List.length_nil]at a;obtain⟨⟨rfl,_,rfl⟩,⟨rfl,_,rfl⟩,_,_,_,⟨rfl,_,rfl⟩,⟨rfl,_,rfl⟩,⟨rfl,_,rfl⟩,⟨rfl,_,rfl⟩,⟨rfl,_,rfl⟩,_,_⟩:=a;exact⟨e,b,d,c⟩
def qe (K:Nat)(x:Rat)(n w:O)(e:aO)(g:O):Prop:= ∃(m:Bool) (i ai c b:Option am) (a k j l f d:Nat),e=aw (aY #[af #[J m,D i a k,D ai j l,D c 1 f,D b 0 d],af #[H I 0,H I 0,H I 0,H I 0]])/\aL K n g (D c 1 f) [x]/\(∀w2,aU 2 w2 (D b 0 d) [])/\V w g
theorem qe.of (u:V wb w)(h:vM K x w e ab):qe K x wb w e ab:=by
 obtain⟨s,f,ai,AY,g,a,c,b,d,cY,i,k,h1,h2,j⟩:=h;exact⟨s,f,ai,AY,g,a,c,b,d,cY,i,k,h1.weaken u,h2,j⟩
def nC (K:Nat)(z:Rat)(f w:O)(e:aO)(d:O):Prop:= ∃(a B:Option am) (b c:Nat),e=aw (aY #[af #[D a 1 b,D B 0 c],J true])/\aL K f d (D a 1 b) [z]/\(∀w2,aU 2 w2 (D B 0 c) [])/\V w d
theorem nC.of (u:V wb w)(h:vO K z w e ab):nC K z wb w e ab:=by
 obtain⟨a,B,c,d,b,h1,h2⟩:=h;exact⟨a,B,c,d,b,h1.weaken u,h2⟩
def dV (w c:O):Prop:= ∀b a,Bx 63 w b a->Bx 63 c b a
theorem dV.up {w w1 ab:O}(h:dV w w1)(u:V w1 ab):dV w ab:=λg a b=>(h g a b).up u
instance dV.bW {w w1 ab:O}:Lu (V w1 ab) (dV w w1) (dV w ab):=bu λu h=>h.up u
theorem dV.refl (w:O):dV w w:=λ_ _ b=>b
theorem dV.trans (h:dV w w1)(k:dV w1 ab):dV w ab:=λg a b=>k g a (h g a b)
theorem dV.gb {vs:List W}(h:dV w w1)(hb:Bx T w1 gg vs)(c:Gb gg w1 ab)(d:63≠T):dV w ab:=λg a b=>c.bx (h g a b) (cL (h g a b) hb d)
theorem dV.bs {T:an}{w w1 ab:O}{r:Nat}{old new:List W}(h:dV w w1)(b:Bs T r w1 ab old new)(a:63≠T\/w.heap.size<=r):dV w ab:=λg c x=>(h g c x).bs b (by
 rcases a with a|a
 .exact cL (h g c x) b.old a
 .exact Nat.ne_of_lt (Nat.lt_of_lt_of_le x.lt a))
theorem dN (h:aL k w0 w v qs)(b:Bs T g w ab old new)(a:53≠T):aL k w0 ab v qs:=ef (aR k) h b a
def FK (d w:O)(o gg m:Nat)(xs us:List W)(p:Nat)(a:Int)(k s:Rat)(e:aO)(b:O):Prop:=e=aw (af #[H I 0,H I 0,H I 0,H I 0])/\V d b/\dV w b/\ ∃(i g f:Option am) (cy l j:Nat) (c n:Int),(0<=c/\c<=a+1)/\Bx 253 b o (xs++[D (U ⟨m,0,none⟩) 2 2,D g 1 l,D f 0 j,az (U ⟨gg,0,none⟩)])/\Bx 44 b m (us.set p (D i 1 cy))/\aL 130 d b (D i 1 cy) [k]/\aL 130 d b (D g 1 l) [s+k]/\(∀w2,aU 2 w2 (D f 0 j) [])/\Bx 154 b gg [H I c,H I n,H I (Ga.a5 200)]
theorem vR {n z o h:ay}{nm:ByteArray}{U0 U1:Option am}{cs u0 u1 x0 x1:Nat}{YA:Nat->Option am}{k:Rat}{b:Int}
 (ci:c7 kp wb [D TA 1 aH,D TB 1 cB,H I 1,H I 0,al nm,D SC 2 cc,D SA 2 ca,D SB 2 cb,D SE 2 ce,D PA 0 cp,H I 200] (Z.qb n z o h nm))(c5:Y (eD (Z.qb n z o h nm)))(ec:Y (Z.c9 [⟨3,0,0,n⟩] [0] 1 0=true))(c0:j<2)(c9:Fr wb (af #[J s1,D A1 n1 c1,D D1 m1 d1]) t 90000)(cZ:Fr wb (af #[J s2,D A2 n2 c2,D D2 m2 d2]) h0 90000)
 (cS:Bx 44 wb fZ ([D (YA 0) 1 (yc 0),D (YA 1) 1 (yc 1)]++more))(cU:Y (∀j,aU 130 wb (D (YA j) 1 (yc j)) [yv j]))(c4:Y (∀j t,Z.run (Ga.a5 200) t [yv j] [] [⟨3,0,0,n⟩] []=(Z.aG,[yv j])))
 (bU:Bx 253 w gm [D TA 1 aH,D TB 1 cB,H I 1,H I 0,al nm,D SC 2 cc,D SA 2 ca,D SB 2 cb,D SE 2 ce,D PA 0 cp,H I 200,J s1,D A1 n1 c1,D D1 m1 d1,J s2,D A2 n2 c2,D D2 m2 d2,D CW 1 cw,D (U ⟨fZ,0,none⟩) 2 cY,D MK nK cK,D MN nN gU,D ME nE cE,D (U ⟨gy,0,none⟩) 2 2,D SY 1 cs,D SP 0 fU,az (U ⟨gg,0,none⟩)])(bV:Bx 44 w gy [D U0 u0 x0,D U1 u1 x1])(X:Bx 154 w gg [H I a,H I b,H I (Ga.a5 200)])(c8:aL 130 ws w (D SY 1 cs) [s])(ed:Y (∀w2,aU 2 w2 (D SP 0 fU) []))
 (c6:∀bt,V w bt->aj ae 210 #[az (U ⟨gm,0,none⟩),H I (j:Int)] bt (dT K [k] bt))(bH:Y (k≠0/\(Z.bits k:Int)<=Ga.a5 200/\E.Lq k 130/\E.Lq (s+k) 130))(m:K<=1000000)(ha:0<=a/\a<=1000)(eN:kp<=1000)(db:V wb w)(cX:wb.heap.size<=gm/\wb.heap.size<=gg/\wb.heap.size<=gy):
 aj ae 188 #[az (U ⟨gm,0,none⟩),H I (j:Int)] w (FK wb w gm gg gy [D TA 1 aH,D TB 1 cB,H I 1,H I 0,al nm,D SC 2 cc,D SA 2 ca,D SB 2 cb,D SE 2 ce,D PA 0 cp,H I 200,J s1,D A1 n1 c1,D D1 m1 d1,J s2,D A2 n2 c2,D D2 m2 d2,D CW 1 cw,D (U ⟨fZ,0,none⟩) 2 cY,D MK nK cK,D MN nN gU,D ME nE cE] [D U0 u0 x0,D U1 u1 x1] j a k s):=by
 have dt:=G ci;obtain⟨cR,cP,d0,cQ⟩:=FJ ci;have dB:=G cR;have dq:=G cP;have dr:=G cQ;clear ci cR cP d0 cQ;have d8:gm≠gg:=cL bU X (by decide);have d9:gy≠gg:=cL bV X (by decide);have eT:gm≠gy:=cL bU bV (by decide);have bY:=G bU;have bn:=G X;have cx:=G bV;have dA:=G c8;have cu:=G db;have dx:=G c6;have dC:=G c9;have dk:=G cZ;have cv:=G cS;clear bU X bV c8 db c6 c9 cZ cS;obtain⟨bu,bI,bS,bT⟩:∃bl br,YA j=bl/\yc j=br:=⟨_,_,rfl,rfl⟩;have b0:=G (cU.out j);rw[bS,bT]at b0;obtain⟨dd,cr⟩:∃cm,Y (yv j=cm/\ ∀t,Z.run (Ga.a5 200) t [cm] [] [⟨3,0,0,n⟩] []=(Z.aG,[cm])):=⟨_,G ⟨rfl,c4.out j⟩⟩;rw[cr.out.1]at b0
 have dD:Y (∀N,V wb N->N.cell? ⟨fZ,j,none⟩=U (D bu 1 bI)):=G λN ck=>by
  have hb:=cv.out.up ck;obtain rfl|rfl:j=0\/j=1:=by omega
  .rw[<-bS,<-bT];exact hb.k 0
  .rw[<-bS,<-bT];exact hb.k 1
 clear bS bT c4 cU cv;have eW:(0:Int)<=(j:Int):=by omega
 have eX:(j:Int)<2:=by omega
 have eY:((j:Int)).toNat=j:=by omega
 go_enter func188,ntmps188;go_wp2_with fail;generalize r:ah w _=bt at*;obtain⟨d,g⟩:=aC r;clear r;have P:=g.c4;have aG:=g.free;refine(dx.out bt d).mono ?_;rintro bQ ew ⟨ev,rfl,bW,u1⟩;obtain⟨cy,dc,(dM:_=D cy 1 dc)⟩:=bW.form;subst dM;revert d g P;refine bo u1 ?_;intro d g P;replace aG:=g.free;clear u1;go_wp2_with fail;have ee:w.heap.size≠gg:=by have:=bn.out.lt;omega
 refine(vQ (bY.out.up d) rfl (bn.out.up d) bW.a m (by simp) (by omega) ?_).mono ?_
 .show Ga.bad _ [Z.bits k]=1;unfold Ga.bad Ga.bad;rw[if_pos bH.out.2.1]
 rintro bQ b2 ⟨ey,e7,rfl,gb,cW,B2⟩;replace g:=B2.bx g ee;have c:=B2.bx (bY.out.up d) d8;have A:=B2.bx (cx.out.up d) d9;have bq:=B2.own (aR _) bW.a (bn.out.up d) (by decide);have T:aL 130 ws b2 (D SY 1 cs) [s]:=B2.own (aR _) (dA.out.up d) (bn.out.up d) (by decide);have cA:=B2.du (cu.out.trans d) cX.2.1;have R:=((dV.refl w).up d).gb (bn.out.up d) B2 (by decide);have eU:wb.heap.size<=w.heap.size:=cu.out.size;have eS:gm<w.heap.size:=bY.out.lt;have eK:gg<w.heap.size:=bn.out.lt;have eV:gy<w.heap.size:=cx.out.lt;clear d bW B2 P aG;have d:=cA;clear cA;have bq:aF 130 b2 (D cy 1 dc) [k]:=aF.re bq (λq eb=>by rw[List.mem_singleton.1 eb];exact bH.out.2.2.1);have bR:=gb.c3;have P:=g.c4;have aG:=g.free;unfold cJ Z.aG;have dW:=ez bR;have ei:=ez P;have ej:=g.fa;go_upto_region 5 with fail
 clear dW ei ej;generalize r:ah b2 _=aO at*;obtain⟨Q,cD⟩:=aC r;clear r;have eZ:=c.lt;have fh:=A.lt;have eG:=gb.lt;have fc:=g.lt;revert gb g c A T R d bq bR P;refine bw Q ?_;intro gb g c A T R d bq bR P;replace aG:=g.free;clear Q;have dO:=cD.c4;have bZ:=G g;have bL:=G c;have b1:=G A;have bX:=G gb;have dm:=G bq;have ct:=G T;have co:=G R;have bi:=G d;clear d A gb g bq T R bR P aG;have d:=V.refl aO
 go_cut [7] (λek bf=> ∃(b8:Nat) (s:Bool) (bl ai:Option am) (n br c bP:Nat) (mo:Rat),ek=az (U ⟨b8,0,none⟩)/\aO.heap.size<=b8/\Bx 207 bf b8 [J s,D bl n br,D ai c bP,D bu 1 bI,D PA 0 cp]/\Fr bf (af #[J s,D bl n br,D ai c bP]) mo 200000/\V aO bf)
 case first=>
  obtain⟨B,C,L,M,a5,a7,a9,ba,bb,bd,F,aQ,aS,aT,aV,aY,a1⟩:=c.dg;have a2:=c.k 18;have bO:Y (∀N,V aO N->N.cell? ⟨fZ,j,none⟩=U (D bu 1 bI)):=G λN ck=>dD.out N (bi.out.trans ck)
  revert c d B C L M a5 a7 a9 ba bb bd;refine au (V.refl aO).drew ?_;intro c d B C L M a5 a7 a9 ba bb bd;revert F aQ aS aT aV aY a1 a2;refine b9 (V.refl aO).drew ?_;intro F aQ aS aT aV aY a1 a2
  refine aZ ?_;refine a3 (S:=λN=>V aO N/\Cz N gm 0 [D TA 1 aH,D TB 1 cB,H I 1,H I 0,al nm,D SC 2 cc,D SA 2 ca,D SB 2 cb,D SE 2 ce,D PA 0 cp,H I 200,J s1,D A1 n1 c1,D D1 m1 d1,J s2,D A2 n2 c2,D D2 m2 d2]/\Cz N gm 18 [D (U ⟨fZ,0,none⟩) 2 cY]/\(N.cell? ⟨fZ,j,none⟩=U (D bu 1 bI))) (by kernel_rfl) (by exact⟨d,c.cy 0 17,c.cy 18 1,bO.out _ d⟩) (λu=> ?_);generalize aO.drew=y at*;refine aa 0 ?_;refine aa 1 ?_;refine aa 2 ?_;refine aa 3 ?_;refine aa 4 ?_;refine aa 5 ?_;refine aa 6 ?_;refine aa 7 ?_;refine aa 8 ?_;refine aa 9 ?_;refine aa 10 ?_;refine aa 11 ?_;refine aa 12 ?_;refine aa 14 ?_;refine aa 15 ?_;refine aa 16 ?_;refine aa 17 ?_;refine aa 18 ?_;refine aa 19 ?_;refine aa 20 ?_;refine aa 21 ?_;refine aa 22 ?_;refine aa 23 ?_;refine aa 24 ?_;refine aa 25 ?_;refine aa 26 ?_
  repeat' first
   |(have m:=dw;clear dw
     (try clear u)
     go_simp;go_at_call 117
     with_reducible refine(FI (dt.out.up (bi.out.trans d)) c5 c0 (dC.out.up (bi.out.trans d)) (dk.out.up (bi.out.trans d))).mono ?_
     rintro bQ y ⟨fe,et,eu,e5,eC,e4,eE,e3,rfl,bh,aA⟩;revert c d B C L M a5 a7 a9 ba bb bd;refine au aA ?_;intro c d B C L M a5 a7 a9 ba bb bd;revert F aQ aS aT aV aY a1 a2;refine b9 aA ?_;intro F aQ aS aT aV aY a1 a2
     try(replace e:=e.up aA)
     clear aA
     try go_wp2_with fail
     refine ax m (by exact⟨d,c.cy 0 17,c.cy 18 1,bO.out _ d⟩) (λu=> ?_);clear m K)
   |(have m:=dF;clear dF
     (try clear u)
     go_simp;have e2:=c.lt;have eh:=d.size;generalize X:y.heap.size=cf at*;generalize r:ah y _=y at*;obtain⟨Q,e⟩:=b3 r X;clear r X
     try(replace bh:=bh.up Q)
     revert c d B C L M a5 a7 a9 ba bb bd;refine au Q ?_;intro c d B C L M a5 a7 a9 ba bb bd;revert F aQ aS aT aV aY a1 a2;revert Q;refine el ?_;intro F aQ aS aT aV aY a1 a2
     refine ax m (by exact⟨d,c.cy 0 17,c.cy 18 1,bO.out _ d⟩) (λu=> ?_);clear m K)
   |(have m:=dJ;clear dJ
     (try clear u)
     obtain⟨bx,bz,bA,bB,b6⟩:=e.c5;have bC:=e.free 0;have bD:=e.free 1;have bE:=e.free 2;have bF:=e.free 3;have b7:=e.free 4;go_simp;clear bx bz bA bB b6 bC bD bE bF b7;generalize r:ag (ag (ag (ag (ag y _ _) _ _) _ _) _ _) _ _=y at*;have f:=e8 e r;clear r
     try(replace bh:=bh.kw f.kw)
     replace c:=c.bs f;replace e:=f.new;replace d:=d.bs f;clear f;clear B C L M a5 a7 a9 ba bb bd F aQ aS aT aV aY a1 a2;obtain⟨B,C,L,M,a5,a7,a9,ba,bb,bd,F,aQ,aS,aT,aV,aY,a1⟩:=c.dg;have a2:=c.k 18;refine ax m (by exact⟨d,c.cy 0 17,c.cy 18 1,bO.out _ d⟩) (λu=> ?_);clear m K)
   |(with_reducible show b5 _ _ _ _ _ _ _ _ _ _
     first
      |refine av (i:=13) rfl (λK dw=> ?_) ?_
      |refine av (i:=28) rfl (λK dF=> ?_) ?_
      |refine av (i:=29) rfl (λK dJ=> ?_) ?_
      |exact bm)
   |(with_reducible show bJ _ _ _ _ _ _ _ _ _
     first
      |refine ak [13,28] ?_
      |refine ak [13] ?_
      |refine ak [28] ?_
      |refine ak [29] ?_
      |refine aa 27 ?_
      |refine aW (by decide +kernel) (aX ?_) _)
   |fail
  all_goals try clear u
  all_goals have e9:=e.c5
  all_goals
   have cg:=eh;go_wp2_with fail
   go_meet
   exact⟨cf,_,_,_,_,_,_,_,_,rfl,cg,e,bh,d⟩
 case rest=>
  obtain⟨cf,sz,de,df,eg,cz,mz,dL,mo,rfl,eL,e,bh,bk⟩:=hcut;have bs:=G (bi.out.trans bk);have dn:=G (dm.out.up bk);have dG:=G bh;have dv:Y (Z.run (Ga.a5 200) mo [dd] [] [⟨3,0,0,n⟩] []=(Z.aG,[dd])):=G (cr.out.2 mo);have du:Y (∀w2,aU 130 w2 (D PA 0 cp) []):=G λw2=>jA dr.out.sq w2
  have di:Y (n.bd 1000):=G (c5.out.bd ⟨3,0,0,n⟩ (by simp[Z.qb]));have dh:Y ((Z.bits k:Int)<=Ga.a5 200/\2<=Ga.a5 200):=G ⟨bH.out.2.1,by decide⟩;have bj:=G bk;clear bk bh d;clear c;have d:=V.refl wc;have c:=bL.out.up bj.out;clear cD dO;go_wp2_with fail
  go_cut [8,9] (λen eo bf=> ∃(p bG:Nat) (s:Bool) (bl ai aB GP:Option am) (a br b bP cY cC:Nat),en=az (U ⟨p,0,none⟩)/\eo=az (U ⟨bG,0,none⟩)/\wc.heap.size<=p/\wc.heap.size<=bG/\p≠bG/\Bx 302 bf p [J s,D bl a br,D ai b bP,D aB 1 cY,D GP 0 cC]/\Bx 63 bf bG [H I 0,H I 0,H I 0,H I 0]/\aL 130 wc bf (D aB 1 cY) [k]/\(∀w2,aU 2 w2 (D GP 0 cC) [])/\V wc bf)
  case first=>
   have B:=c.k 0;have C:=c.k 1;have L:=c.k 2;have M:=c.k 3;have F:=c.k 10;have an:=e.k 0;have ao:=e.k 1;have aq:=e.k 2;have ar:=e.k 3;have aw:=e.k 4;revert e d c B C L M F an ao aq ar;refine au (V.refl wc).drew ?_;intro e d c B C L M F an ao aq ar;revert aw;refine cj (V.refl wc).drew ?_;intro aw
   refine aZ ?_;refine a3 (S:=λN=>V wc N/\Cz N gm 0 [D TA 1 aH,D TB 1 cB,H I 1,H I 0]/\Cz N gm 10 [H I 200]/\Cz N cf 0 [J sz,D de eg cz,D df mz dL,D bu 1 bI,D PA 0 cp]) (by kernel_rfl) (by exact⟨d,c.cy 0 4,c.cy 10 1,e.cz⟩) (λu=> ?_);generalize wc.drew=y at*;refine aa 0 ?_;refine aa 1 ?_;refine aa 2 ?_;refine aa 3 ?_;refine aa 4 ?_;refine aa 5 ?_;refine aa 6 ?_;refine aa 7 ?_;refine aa 8 ?_;refine aa 9 ?_;refine aa 10 ?_;refine aa 11 ?_
   repeat' first
    |(have m:=ds;clear ds
      (try clear u)
      go_simp;go_at_call 211
      with_reducible refine((FC (dB.out.up (cV 0) (bs.out.trans d)) (dq.out.up (bs.out.trans d)) di ec (dG.out.up d) (b0.out.up (bs.out.trans d)) (du.out _) (dn.out.up d) dv (G bH.out.1) dh rfl (by omega) (by omega) (by omega)).mono λ_ _ h=>qe.of d h).mono ?_
      rintro bQ y ⟨dZ,GA,cn,aB,GP,cH,cI,cM,cO,aP,cd,rfl,v,ab,aA⟩;revert e d c B C L M F;refine b9 aA ?_;intro e d c B C L M F
      try(replace p:=p.up aA)
      try(replace l:=l.up aA)
      clear an ao aq ar aw;have an:=e.k 0;have ao:=e.k 1;have aq:=e.k 2;have ar:=e.k 3;have aw:=e.k 4;clear aA
      try go_wp2_with fail
      refine ax m (by exact⟨d,c.cy 0 4,c.cy 10 1,e.cz⟩) (λu=> ?_);clear m K)
    |(have m:=bK;clear bK
      (try clear u)
      go_simp;have e1:=c.lt;have fb:=e.lt;have dU:=d.size
      try(have cF:=l.lt)
      generalize X:y.heap.size=dY at*;generalize r:ah y _=y at*;obtain⟨Q,p⟩:=b3 r X;clear r X
      try(replace v:=v.up Q)
      try(replace ab:=ab.up Q)
      revert e d c B C L M F;refine b9 Q ?_;intro e d c B C L M F
      try(replace l:=l.up Q)
      clear an ao aq ar aw;have an:=e.k 0;have ao:=e.k 1;have aq:=e.k 2;have ar:=e.k 3;have aw:=e.k 4;clear Q;refine ax m (by exact⟨d,c.cy 0 4,c.cy 10 1,e.cz⟩) (λu=> ?_);clear m K)
    |(have m:=dy;clear dy
      (try clear u)
      go_simp;have e0:=c.lt;have fa:=e.lt;have dP:=d.size
      try(have cG:=p.lt)
      generalize X:y.heap.size=dX at*;generalize r:ah y _=y at*;obtain⟨Q,l⟩:=b3 r X;clear r X
      try(replace v:=v.up Q)
      try(replace ab:=ab.up Q)
      revert e d c B C L M F;refine b9 Q ?_;intro e d c B C L M F
      try(replace p:=p.up Q)
      clear an ao aq ar aw;have an:=e.k 0;have ao:=e.k 1;have aq:=e.k 2;have ar:=e.k 3;have aw:=e.k 4;clear Q;refine ax m (by exact⟨d,c.cy 0 4,c.cy 10 1,e.cz⟩) (λu=> ?_);clear m K)
    |(have m:=dz;clear dz
      (try clear u)
      have bx:=p.k 0;have bz:=p.k 1;have bA:=p.k 2;have bB:=p.k 3;have b6:=p.k 4;have bC:=p.free 0;have bD:=p.free 1;have bE:=p.free 2;have bF:=p.free 3;have b7:=p.free 4;go_simp;clear bx bz bA bB b6 bC bD bE bF b7;generalize r:ag (ag (ag (ag (ag y _ _) _ _) _ _) _ _) _ _=y at*;have f:=e8 p r;clear r
      try(replace v:=dN v f (by decide))
      try(replace ab:=ab.kw f.kw)
      replace c:=c.bs f;replace e:=e.bs f;replace l:=l.bs f (by first|omega|(have:=cF;omega)|(have:=cG;omega));replace p:=f.new;replace d:=d.bs f;clear f;clear B C L M F;have B:=c.k 0;have C:=c.k 1;have L:=c.k 2;have M:=c.k 3;have F:=c.k 10;clear an ao aq ar aw;have an:=e.k 0;have ao:=e.k 1;have aq:=e.k 2;have ar:=e.k 3;have aw:=e.k 4;refine ax m (by exact⟨d,c.cy 0 4,c.cy 10 1,e.cz⟩) (λu=> ?_);clear m K)
    |(have m:=dE;clear dE
      (try clear u)
      have bx:=l.k 0;have bz:=l.k 1;have bA:=l.k 2;have bB:=l.k 3;have bC:=l.free 0;have bD:=l.free 1;have bE:=l.free 2;have bF:=l.free 3;go_simp;clear bx bz bA bB bC bD bE bF;generalize r:ag (ag (ag (ag y _ _) _ _) _ _) _ _=y at*;have f:=bp l r;clear r
      try(replace v:=dN v f (by decide))
      try(replace ab:=ab.kw f.kw)
      replace c:=c.bs f;replace e:=e.bs f;replace p:=p.bs f (by first|omega|(have:=cG;omega)|(have:=cF;omega));replace l:=f.new;replace d:=d.bs f;clear f;clear B C L M F;have B:=c.k 0;have C:=c.k 1;have L:=c.k 2;have M:=c.k 3;have F:=c.k 10;clear an ao aq ar aw;have an:=e.k 0;have ao:=e.k 1;have aq:=e.k 2;have ar:=e.k 3;have aw:=e.k 4;refine ax m (by exact⟨d,c.cy 0 4,c.cy 10 1,e.cz⟩) (λu=> ?_);clear m K)
    |(with_reducible show b5 _ _ _ _ _ _ _ _ _ _
      first
       |refine av (i:=12) rfl (λK ds=> ?_) ?_
       |refine av (i:=16) rfl (λK bK=> ?_) ?_
       |refine av (i:=17) rfl (λK dy=> ?_) ?_
       |refine av (i:=18) rfl (λK dz=> ?_) ?_
       |refine av (i:=19) rfl (λK dE=> ?_) ?_
       |exact bm)
    |(with_reducible show bJ _ _ _ _ _ _ _ _ _
      first
       |refine ak [12,16,17] ?_
       |refine ak [12,16] ?_
       |refine ak [12,17] ?_
       |refine ak [16,17] ?_
       |refine ak [12] ?_
       |refine ak [16] ?_
       |refine ak [17] ?_
       |refine ak [18] ?_
       |refine ak [19] ?_
       |refine aa 13 ?_
       |refine aa 14 ?_
       |refine aa 15 ?_
       |refine aW (by decide +kernel) (aX ?_) _)
    |fail
   all_goals try clear u
   all_goals have eF:=p.c5
   all_goals have aE:=l.c4
   all_goals
    have cg:=dU;have d7:=dP;go_wp2_with fail
    go_meet
    exact⟨dY,dX,dZ,GA,cn,aB,GP,cH,cI,cM,cO,aP,cd,rfl,rfl,cg,d7,cL p l (by decide),p,l,v,ab,d⟩
  case rest=>
   obtain⟨p,bG,fd,GA,cn,aB,GP,cH,cI,cM,cO,aP,cd,rfl,rfl,eH,eJ,eI,x,l,v,ab,bk⟩:=hcut;have aN:=bj.out.trans bk;have eO:=(b1.out.up bj.out).lt;have eP:=(bL.out.up bj.out).lt;have eQ:=(bZ.out.up bj.out).lt;have eR:=(bX.out.up bj.out).lt;replace v:=v.weaken bs.out;have dj:=G ab;clear ab;have c:=bL.out.up aN;have A:=b1.out.up aN;have gb:=bX.out.up aN;have g:=bZ.out.up aN;have T:=ct.out.up aN;have R:=co.out.up aN;have d:=bi.out.trans aN;clear bk aN bL b1 bX bZ ct bi bj bs co;have ff:=A.c2;have fg:=A.free;have P:=g.c4;have aG:=g.free;have aE:=l.c4;have ef:=c.k 22;have aI:=c.k 23;have aJ:=c.k 24;have aK:=x.k 3;have aM:=x.k 4;go_wp2_with fail
   have ch:∃ep,wc.cell? ⟨gy,j,none⟩=U ep:=by
    obtain rfl|rfl:j=0\/j=1:=by omega
    .exact⟨_,A.cell (i:=0) rfl⟩
    .exact⟨_,A.cell (i:=1) rfl⟩
   obtain⟨e6,ch⟩:=ch;have ea:=A.free j
   have c3:∀i,i<2->((([D U0 u0 x0,D U1 u1 x1]:List W).drop i).take 1).all f7=true:=λi eM=>by
    obtain rfl|rfl:i=0\/i=1:=by omega
    .rfl
    .rfl
   go_region
   clear ch ea;have f:Bs 44 gy wc (wc.setCell ⟨gy,j,none⟩ (D aB 1 aP)) [D U0 u0 x0,D U1 u1 x1] ([D U0 u0 x0,D U1 u1 x1].set j (D aB 1 aP)):=dK [D aB 1 aP] j A (c3 j c0) (by show j+1<=2;omega);clear c3;have aD:=(V.refl (wc.setCell ⟨gy,j,none⟩ (D aB 1 aP))).drew;replace c:=(c.bs f (by omega)).up aD;replace gb:=(gb.bs f (by omega)).up aD;replace g:=(g.bs f (by omega)).up aD;replace x:=(x.bs f (by omega)).up aD;replace l:=(l.bs f (by omega)).up aD;replace T:=(dN T f (by decide)).up aD;replace v:=(dN v f (by decide)).up aD;replace R:=(R.bs f (.inl (by decide))).up aD;replace d:=(d.bs f cX.2.2).trans aD;replace A:=f.new.up aD;clear f aD ef aI aJ P aG aK aM aE;generalize(wc.setCell ⟨gy,j,none⟩ (D aB 1 aP)).drew=b4 at*;have P:=g.c4;have aG:=g.free;have aE:=l.c4;have aI:=c.k 23;have aJ:=c.k 24;have aK:=x.k 3;have aM:=x.k 4;go_wp2_with fail;clear aE aK aM;revert c gb g x l T v R d A aI aJ;refine au (V.refl b4).drew ?_;intro c gb g x l T v R d A aI aJ;revert P;refine cj (V.refl b4).drew ?_;intro P
   replace aG:=g.free;have aK:=x.k 3;have aM:=x.k 4;have aE:=l.c4;refine aZ ?_;refine a3 (S:=λN=>V wb N/\Cz N p 3 [D aB 1 aP,D GP 0 cd]) (by kernel_rfl) (by exact⟨d,x.cy 3 2⟩) (λu=> ?_);generalize b4.drew=y at*;refine aa 0 ?_;refine aa 1 ?_;refine aa 2 ?_;refine aa 3 ?_;refine aa 5 ?_;refine aa 6 ?_;refine aa 7 ?_;refine aa 8 ?_;refine aa 9 ?_
   repeat' first
    |(have m:=dS;clear dS
      (try clear u)
      go_simp;refine ax m (by exact⟨d,x.cy 3 2⟩) (λu=> ?_);clear m K)
    |(have m:=da;clear da
      (try clear u)
      go_simp;go_at_call 159
      with_reducible refine((vP T.fs v.fs (ed.out _) (dj.out _) (G bH.out.2.2.2) (by decide)).mono λ_ _ h=>nC.of d h).mono ?_
      rintro bQ y ⟨es,er,eB,eA,rfl,bv,ap,aA⟩;revert c gb g x l T v R d A aI aJ;refine au aA ?_;intro c gb g x l T v R d A aI aJ
      replace aG:=g.free;clear P;have P:=g.c4;clear aK aM;have aK:=x.k 3;have aM:=x.k 4;clear aE;have aE:=l.c4;clear aA
      try go_wp2_with fail
      refine ax m (by exact⟨d,x.cy 3 2⟩) (λu=> ?_);clear m K)
    |(have m:=bK;clear bK
      (try clear u)
      have dH:=c.k 23;have dI:=c.k 24;have dQ:=c.free 23;have dR:=c.free 24;go_simp;clear dH dI dQ dR;generalize r:ag (ag y _ _) _ _=y at*;have f:=dp c r;clear r;replace T:=dN T f (by decide);replace v:=dN v f (by decide);replace R:=R.bs f (.inl (by decide));replace A:=A.bs f (by omega)
      try(replace bv:=dN bv f (by decide))
      try(replace ap:=ap.kw f.kw)
      replace gb:=gb.bs f;replace g:=g.bs f;replace x:=x.bs f;replace l:=l.bs f;replace c:=f.new;replace d:=d.bs f;clear f;clear aI aJ;have aI:=c.k 23;have aJ:=c.k 24;replace aG:=g.free;clear P;have P:=g.c4;clear aK aM;have aK:=x.k 3;have aM:=x.k 4;clear aE;have aE:=l.c4;refine ax m (by exact⟨d,x.cy 3 2⟩) (λu=> ?_);clear m K)
    |(with_reducible show b5 _ _ _ _ _ _ _ _ _ _
      first
       |refine av (i:=4) rfl (λK dS=> ?_) ?_
       |refine av (i:=10) rfl (λK da=> ?_) ?_
       |refine av (i:=16) rfl (λK bK=> ?_) ?_
       |exact bm)
    |(with_reducible show bJ _ _ _ _ _ _ _ _ _
      first
       |refine ak [10] ?_
       |refine ak [16] ?_
       |refine ak [4] ?_
       |refine aa 11 ?_
       |refine aa 12 ?_
       |refine aa 13 ?_
       |refine aa 14 ?_
       |refine aa 15 ?_
       |refine aW (by decide +kernel) (aX ?_) _)
    |fail
   all_goals try clear u
   have dg:=G ap;clear ap
   all_goals
    go_wp2_with fail;generalize r:ag (ag (ag (ag y _ _) _ _) _ _) _ _=ex at*;have f:=bp g r;clear r;replace T:=dN T f (by decide);replace v:=dN v f (by decide);replace R:=R.bs f (.inr (a8 _));replace A:=A.bs f (by omega);replace bv:=dN bv f (by decide);replace c:=c.bs f;replace gb:=gb.bs f;replace x:=x.bs f;replace l:=l.bs f;replace g:=f.new;replace d:=d.bs f;clear f;clear P aE aI aJ aK aM;have P:=g.c4;have aE:=l.c4;go_wp2_with fail;exact a4 (cl rfl rfl bM bN g rfl) rfl ⟨rfl,d,R,_,_,_,_,_,_,_,_,⟨cW.1,by have:=cW.2;simp at this;omega⟩,c,A,v,bv,dg.out,gb⟩
theorem FL {qf gs:Nat}(a:Bx 114 w qf [H I 3,H I 0,H I 0,J false,D none 0 0,D none 0 0])(d:Bx 3 w gs [H I 0])(e:dG w0 w (D SC 2 cc) (D SA 2 ca) (D SB 2 cb) (D SE 2 ce) z o b):
 c7 2 w [D (U ⟨qf,0,none⟩) 1 1,D (U ⟨gs,0,none⟩) 1 1,H I 1,H I 0,al ⟨#[104,101,117,110]⟩,D SC 2 cc,D SA 2 ca,D SB 2 cb,D SE 2 ce,D none 0 0,H I 200] (Z.qb (false,[],[]) (aE z) (aE o) (aE b) ⟨#[104,101,117,110]⟩):=by
 refine⟨_,_,_,_,_,_,_,_,_,_,_,_,_,_,rfl,?_,?_,e.sw,?_⟩
 .refine⟨_,1,[[H I 3,H I 0,H I 0,J false,D none 0 0,D none 0 0]],rfl,by simp[Z.qb],by simp[cm],An.snoc (R:=dc w) (An.nil _) ⟨_,_,rfl,Ws.nil w,Ws.nil w,by unfold db;decide,by unfold db;decide,by unfold db;decide⟩,λ_=>⟨qf,0,rfl,a.lt,λf g c=>by rw[Nat.zero_add];exact a.cell c⟩⟩
 .exact o6 d
 .exact⟨none,0,[],rfl,by simp[Z.qb],by simp[cm],Al.nil _,b2.nil _ _⟩
def qg (z o b c d f g i ar ae:Rat)(w:O)(e:aO)(a:O):Prop:= ∃(S T n l m p:Option am) (W X s r cb t:Nat) (A B C F G L M N P Q:Option am) (c1 c2 c3 c4 c5 ag ah ai aj ak:Nat) (aq y:Bool) (K R j k U:Option am) (ao aa an ab x q v u Y:Nat),e=aw (af #[D S 1 W,D T 1 X,H I 1,H I 0,al ⟨#[104,101,117,110]⟩,D n 2 s,D l 2 r,D m 2 cb,D p 2 t,D none 0 0,H I 200,J (E.aB c.num),D A (E.words c.num.natAbs).length c1,D L (E.words c.den).length ag,J (E.aB d.num),D B (E.words d.num.natAbs).length c2,D M (E.words d.den).length ah,J (E.aB f.num),D C (E.words f.num.natAbs).length c3,D N (E.words f.den).length ai,J (E.aB g.num),D F (E.words g.num.natAbs).length c4,D P (E.words g.den).length aj,J (E.aB i.num),D G (E.words i.num.natAbs).length c5,D Q (E.words i.den).length ak,H I 16,H I 100,J aq,D K ao aa,D R an ab,J y,D j x q,D k v u,J y,D j x q,D k v u,D U 1 Y])/\c7 2 a [D S 1 W,D T 1 X,H I 1,H I 0,al ⟨#[104,101,117,110]⟩,D n 2 s,D l 2 r,D m 2 cb,D p 2 t,D none 0 0,H I 200] (Z.qb (false,[],[]) (aE z) (aE o) (aE b) ⟨#[104,101,117,110]⟩)/\dG w a (D n 2 s) (D l 2 r) (D m 2 cb) (D p 2 t) z o b/\
 ((Ws a (D A (E.words c.num.natAbs).length c1) (E.words c.num.natAbs)/\Ws a (D L (E.words c.den).length ag) (E.words c.den))/\(Ws a (D B (E.words d.num.natAbs).length c2) (E.words d.num.natAbs)/\Ws a (D M (E.words d.den).length ah) (E.words d.den))/\(Ws a (D C (E.words f.num.natAbs).length c3) (E.words f.num.natAbs)/\Ws a (D N (E.words f.den).length ai) (E.words f.den))/\(Ws a (D F (E.words g.num.natAbs).length c4) (E.words g.num.natAbs)/\Ws a (D P (E.words g.den).length aj) (E.words g.den))/\(Ws a (D G (E.words i.num.natAbs).length c5) (E.words i.num.natAbs)/\Ws a (D Q (E.words i.den).length ak) (E.words i.den)))/\
 Fr a (af #[J aq,D K ao aa,D R an ab]) ar 2/\Fr a (af #[J y,D j x q,D k v u]) ae 2/\aU 2 a (D U 1 Y) [ae]/\V w a
theorem FM {U1:Rat}(q:Fq z o b)(bE:Y (((1:Int):Rat)/((4:Int):Rat)=U0))(bF:Y (((1:Int):Rat)/((1000:Int):Rat)=U1))(bG:Y (((9:Int):Rat)/((10:Int):Rat)=U2))(bH:Y (((1:Int):Rat)/((5:Int):Rat)=U3))(bI:Y (((5:Int):Rat)=U4))(bK:Y (((1:Int):Rat)/((1000000:Int):Rat)=U5))(a9:Y (((0:Int):Rat)=s0))(a7:Y (((1:Int):Rat)=e0))(w:O):
 aj ae 19 #[] w (qg z o b U0 U2 U3 U4 U5 s0 e0 w):=by
 have bM:Y (E.Lq s0 2):=G (by rw[<-a9.out];exact dR (by omega));have bL:Y (E.Lq e0 2):=G (by rw[<-a7.out];exact dR (by omega));go_enter func19,ntmps19;go_upto_region 1 with fail
 generalize u:ah w _=aP at*;obtain⟨k,f⟩:=aC u;clear u;go_wp2_with fail;generalize u:ah (ah (ah aP _) _) _=ck at*;obtain⟨y,l,m,g⟩:=dm u;clear u;have cU:=f.lt;have cW:=f.lt;have c0:=f.lt;replace f:=f.up y;replace k:=k.trans y;clear y;refine(EZ q _).mono ?_;rintro aT ba ⟨bP,bV,bN,bU,bO,cb,bQ,bW,rfl,r,cc⟩;replace r:=r.weaken k;revert l m g f k;revert cc;refine dH ?_;intro l m g f k;go_wp2_with fail;generalize u:ah ba _=cn at*;obtain⟨y,e⟩:=aC u;clear u;have cZ:=f.lt;have cD:=l.lt;have cO:=m.lt;have di:=g.lt;revert r l m g f k;revert y;refine dX ?_;intro r l m g f k;go_wp2_with fail
 with_reducible refine(Ef bF bG bH bI bK _).mono ?_
 rintro aT bb ⟨cd,bo,bp,br,bs,cg,bv,bx,bz,bA,c1,c2,c3,c4,c5,cz,bZ,b0,b1,b2,rfl,⟨a,ad,x,bj,p,pd,A,B,C,F⟩,u3⟩;revert e r l m g f k;revert u3;refine eR ?_;intro e r l m g f k;go_wp2_with fail;generalize u:ah bb _=co at*;obtain⟨y,j⟩:=aC u;clear u;have cY:=f.lt;have cC:=l.lt;have cN:=m.lt;have dg:=g.lt;have dc:=e.lt;revert a ad x bj p pd A B C F r f;refine au y ?_;intro a ad x bj p pd A B C F r f;revert e l m g k;revert y;refine dH ?_;intro e l m g k;clear a ad;go_wp2_with fail
 with_reducible refine(sb (n:=1) (d:=4) (by omega) (by omega) _).mono ?_
 rintro aT bR ⟨ci,rfl,v,u5⟩;revert x bj p pd A B C F r f l m;refine au u5 ?_;intro x bj p pd A B C F r f l m;revert j e g k;revert u5;refine dW ?_;intro j e g k;rw[bE.out]at v;obtain⟨cq,cu,rfl,v,K⟩:=v;obtain⟨bt,cG,bX,rfl⟩:=v.shape;obtain⟨bu,cH,bY,rfl⟩:=K.shape;obtain rfl:=gq v;obtain rfl:=gq K;go_upto_region 5 with fail
 generalize u:ah bR _=bS at*;obtain⟨y,t⟩:=aC u;clear u;have cX:=f.lt;have cB:=l.lt;have cM:=m.lt;have df:=g.lt;have db:=e.lt;have c8:=j.lt;revert x bj p pd A B C F r f v K;refine au y ?_;intro x bj p pd A B C F r f v K;revert l m j e g k;revert y;refine dX ?_;intro l m j e g k;have R:=t.c3;have N:=j.k 0;have P:=j.k 1;have Q:=j.k 2;have b8:=j.free 0;have b9:=j.free 1;have ca:=j.free 2;go_wp2_with fail;clear b8 b9 ca;generalize u:ag (ag (ag bS _ _) _ _) _ _=cp at*;have s:=dh j u;clear u;replace r:=r.bs s (by decide);revert x bj p pd A B C F v K;refine bw s.kw ?_;intro x bj p pd A B C F v K;replace f:=f.bs s;replace l:=l.bs s;replace m:=m.bs s;replace g:=g.bs s;replace e:=e.bs s;replace t:=t.bs s;replace j:=s.new;replace k:=k.bs s;clear s;clear N P Q;replace R:=t.c3;go_wp2_with fail
 with_reducible refine(fd (n:=1) (by omega) _).mono ?_
 rintro aT bf ⟨cj,rfl,on,u8⟩;revert r x bj p pd A B C F v K f;refine au u8 ?_;intro r x bj p pd A B C F v K f;revert l m g e t j k R;revert u8;refine el ?_;intro l m g e t j k R;rw[a7.out]at on;obtain⟨cr,cv,rfl,on,M⟩:=on;obtain⟨a1,bl,bh,rfl⟩:=on.shape;obtain⟨a2,bn,cond,rfl⟩:=M.shape;have b7:=t.d3;go_upto_region 7 with fail
 clear b7;generalize u:ah bf _=aR at*;obtain⟨y,L⟩:=aC u;clear u;have cV:=f.lt;have cA:=l.lt;have cK:=m.lt;have de:=g.lt;have da:=e.lt;have c7:=j.lt;have cQ:=t.lt;revert r x bj p pd A B C F v K on;refine au y ?_;intro r x bj p pd A B C F v K on;revert f l m g e t j k R M;revert y;refine eG ?_;intro f l m g e t j k R M;have aY:=L.c3;have aH:=g.k 0;have aI:=g.k 1;have aJ:=g.k 2;have aK:=g.k 3;have aB:=e.k 0;have aD:=e.k 1;have aE:=e.k 2;have aF:=e.k 3;have aG:=e.k 4;obtain⟨N,P,Q,ao,aq,ar,aw,ay,az,aA,X,Z,ab,af,ai,am,an⟩:=j.dg;revert r x bj p pd A B C F v K on;refine au (V.refl aR).drew ?_;intro r x bj p pd A B C F v K on;revert L f l m g e t j k M aH aI;refine au (V.refl aR).drew ?_;intro L f l m g e t j k M aH aI;revert aJ aK aB aD aE aF aG N P Q ao aq;refine au (V.refl aR).drew ?_;intro aJ aK aB aD aE aF aG N P Q ao aq;revert ar aw ay az aA X Z ab af ai am an;refine au (V.refl aR).drew ?_;intro ar aw ay az aA X Z ab af ai am an;replace R:=t.c3;replace aY:=L.c3;refine aZ ?_;refine a3 (S:=λaS=>V w aS/\Cz aS (aP.heap.size+1+1) 0 [D (U ⟨aP.heap.size,0,none⟩) 1 1,D (U ⟨aP.heap.size+1,0,none⟩) 1 1,H I 1,H I 0]/\Cz aS (ba.heap.size) 0 [al ⟨#[104,101,117,110]⟩,D bP 2 bV,D bN 2 bU,D bO 2 cb,D bQ 2 bW]/\Cz aS (bb.heap.size) 0 [J (E.aB U0.num),D bt (E.words U0.num.natAbs).length bX,D bu (E.words U0.den).length bY,J (E.aB U2.num),D bo (E.words U2.num.natAbs).length c2,D bv (E.words U2.den).length bZ,J (E.aB U3.num),D bp (E.words U3.num.natAbs).length c3,D bx (E.words U3.den).length b0,J (E.aB U4.num),D br (E.words U4.num.natAbs).length c4,D bz (E.words U4.den).length b1,J (E.aB U5.num),D bs (E.words U5.num.natAbs).length c5,D bA (E.words U5.den).length b2,H I 16,H I 100]/\Cz aS (bf.heap.size) 0 [J (E.aB e0.num),D a1 bl bh,D a2 bn cond]) (by kernel_rfl) (by exact⟨k,g.cz,e.cz,j.cz,L.cz⟩) (λaN=> ?_);generalize aR.drew=aM at*;refine aa 0 ?_;refine aa 1 ?_;refine aa 2 ?_;refine aa 3 ?_;refine aa 5 ?_;refine aa 6 ?_;refine aa 7 ?_
 repeat' first
  |(have W:=bq;clear bq
    (try clear aN)
    go_simp;go_at_call 22
    with_reducible refine(fd (n:=0) (by omega) aM).mono ?_
    rintro aT aM ⟨ch,rfl,T,aQ⟩;revert r x bj p pd A B C F v K on;refine au aQ ?_;intro r x bj p pd A B C F v K on;revert L f l m g e t j k M aH aI;refine au aQ ?_;intro L f l m g e t j k M aH aI;revert aJ aK;refine cR aQ ?_;intro aJ aK
    try(replace aL:=aL.up aQ)
    try(replace aO:=aO.up aQ)
    clear aB aD aE aF aG;have aB:=e.k 0;have aD:=e.k 1;have aE:=e.k 2;have aF:=e.k 3;have aG:=e.k 4;clear N P Q ao aq ar aw ay az aA X Z ab af ai am an;obtain⟨N,P,Q,ao,aq,ar,aw,ay,az,aA,X,Z,ab,af,ai,am,an⟩:=j.dg;replace R:=t.c3;replace aY:=L.c3;clear aQ;rw[a9.out]at T;obtain⟨ct,cw,rfl,T,aL⟩:=T;obtain⟨ce,cI,cx,rfl⟩:=T.shape;obtain⟨cf,cJ,cy,rfl⟩:=aL.shape
    try go_wp2_with fail
    refine ax W (by exact⟨k,g.cz,e.cz,j.cz,L.cz⟩) (λaN=> ?_);clear W aV)
  |(have W:=bB;clear bB
    (try clear aN)
    go_simp;have c6:=f.lt;have cE:=l.lt;have cP:=m.lt;have dj:=g.lt;have dd:=e.lt;have c9:=j.lt;have cS:=t.lt;have cF:=L.lt;have dk:=k.size;generalize bk:aM.heap.size=b4 at*;generalize u:ah aM _=aM at*;obtain⟨y,aO⟩:=b3 u bk;clear u bk;revert r x bj p pd A B C F v K on;refine au y ?_;intro r x bj p pd A B C F v K on;revert L f l m g e t j k M aH aI;refine au y ?_;intro L f l m g e t j k M aH aI;revert aJ aK;refine cR y ?_;intro aJ aK
    try(replace T:=T.up y)
    try(replace aL:=aL.up y)
    clear aB aD aE aF aG;have aB:=e.k 0;have aD:=e.k 1;have aE:=e.k 2;have aF:=e.k 3;have aG:=e.k 4;clear N P Q ao aq ar aw ay az aA X Z ab af ai am an;obtain⟨N,P,Q,ao,aq,ar,aw,ay,az,aA,X,Z,ab,af,ai,am,an⟩:=j.dg;replace R:=t.c3;replace aY:=L.c3;clear y;refine ax W (by exact⟨k,g.cz,e.cz,j.cz,L.cz⟩) (λaN=> ?_);clear W aV)
  |(have W:=bi;clear bi
    (try clear aN)
    refine fm (by rfl) ?_;refine nu (S:=57) (.tmp 0) (.tmp 33) (by rfl) (by rfl) (by rfl) f (by kernel_rfl) (by rfl) (by rfl) (by rfl) ?_;intro bT s;replace r:=r.bs s (by decide);revert x bj p pd A B C F v K on M;refine au s.kw ?_;intro x bj p pd A B C F v K on M;revert T aL;refine cR s.kw ?_;intro T aL
    replace l:=l.bs s (cL l f (by decide));replace m:=m.bs s (cL m f (by decide));replace g:=g.bs s (cL g f (by decide));replace e:=e.bs s (cL e f (by decide));replace j:=j.bs s (cL j f (by decide));replace t:=t.bs s (cL t f (by decide));replace L:=L.bs s (cL L f (by decide));replace aO:=aO.bs s (cL aO f (by decide));replace k:=k.bs s (a8 _);replace f:=s.new;clear s;obtain⟨aM,b6⟩:∃aP,aP=bT:=⟨_,rfl⟩;subst b6;clear aH aI aJ aK;have aH:=g.k 0;have aI:=g.k 1;have aJ:=g.k 2;have aK:=g.k 3;clear aB aD aE aF aG;have aB:=e.k 0;have aD:=e.k 1;have aE:=e.k 2;have aF:=e.k 3;have aG:=e.k 4;clear N P Q ao aq ar aw ay az aA X Z ab af ai am an;obtain⟨N,P,Q,ao,aq,ar,aw,ay,az,aA,X,Z,ab,af,ai,am,an⟩:=j.dg;replace R:=t.c3;replace aY:=L.c3;refine ax W (by exact⟨k,g.cz,e.cz,j.cz,L.cz⟩) (λaN=> ?_);clear W aV)
  |(with_reducible show b5 _ _ _ _ _ _ _ _ _ _
    first
     |refine av (i:=4) rfl (λaV bq=> ?_) ?_
     |refine av (i:=8) rfl (λaV bB=> ?_) ?_
     |refine av (i:=10) rfl (λaV bi=> ?_) ?_
     |exact bm)
  |(with_reducible show bJ _ _ _ _ _ _ _ _ _
    first
     |refine ak [4,8] ?_
     |refine ak [4] ?_
     |refine ak [8] ?_
     |refine ak [10] ?_
     |refine aa 9 ?_
     |refine aW (by decide +kernel) (aX ?_) _)
  |fail
 all_goals try clear aN
 all_goals try(have dn:=aO.c3)
 all_goals
  go_wp2_with fail;have bC:=(eb T aL).fr bM.out;have a5:=(eb on M).fr bL.out;have bD:aU 2 aM (D (U ⟨b4,0,none⟩) 1 1) [e0]:=⟨_,1,[⟨E.aB e0.num,D a1 bl bh,D a2 bn cond⟩],rfl,by simp,by simp[cm],Al.one a5,mi (c:=1) aO⟩;exact a4 (cl rfl rfl hP hQ f rfl) rfl ⟨_,_,_,_,_,_,_,_,_,_,_,_,_,_,_,_,_,_,_,_,_,_,_,_,_,_,_,_,_,_,_,_,_,_,_,_,_,_,_,_,_,_,_,_,_,_,_,_,rfl,FL l m r,r,⟨⟨v,K⟩,⟨x,bj⟩,⟨p,pd⟩,⟨A,B⟩,C,F⟩,bC,a5,bD,k⟩
namespace Z
def gk:Tk:=⟨⟨[⟨3,0,0,(false,[],[])⟩],[0],1,[0,1],[[],[1]],[1/2,1/2],[1,0],[],200⟩,⟨1/4,9/10,1/5,5,1/1000000,16,100⟩,0,1,1,[1]⟩
def g3:So:=((st gk 3).getD (ik gk))
theorem qh:(st gk 0).isSome=true/\(st gk 1).isSome=true/\(st gk 2).isSome=true/\(st gk 3).isSome=true/\(st gk 4).isSome=false:=by decide +kernel
def kX (o:Option So):Bool:=match o with
 |none=>true
 |some f=>decide (f.t≠1)&&decide (df gk f=aG)
theorem qi:kX (st gk 0)=true/\kX (st gk 1)=true/\kX (st gk 2)=true:=by decide +kernel
theorem qj:g3.t=1/\g3.y.length=1/\(g3.tries.map λr=>(r.t,r.h,r.y,r.ok))=[(0,1,[1],false),(0,7/16,[1],true),(7/16,9/16,[785/512],true)]:=by decide +kernel
theorem vS {k:Tk}{n m:Nat}(h:st k n=none)(b:n<=m):st k m=none:=by
 induction m with
 |zero=>obtain rfl:n=0:=by omega
        exact h
 |succ m ih=>
  by_cases a:n=m+1
  .subst a;exact h
  .rw[st,ih (by omega)]
theorem FN {n:Nat}{s:So}{f:bv}(h:st gk n=U s)(e:(s.t=gk.stop/\f=aG)\/(s.t≠gk.stop/\df gk s≠aG/\f=df gk s)):s=g3/\f=aG:=by
 have d:∀m,n=m->kX (st gk m)=true->False:=λm b c=>by
  subst b;rw[h]at c;simp only[kX,Bool.and_eq_true,decide_eq_true_eq]at c;rcases e with⟨a,_⟩|⟨_,a,_⟩
  .exact c.1 a
  .exact a c.2
 match n,h with
 |0,h=>exact(d 0 rfl qi.1).elim
 |1,h=>exact(d 1 rfl qi.2.1).elim
 |2,h=>exact(d 2 rfl qi.2.2).elim
 |3,h=>
  have b:s=g3:=by unfold g3;rw[h];rfl
  subst b;refine⟨rfl,?_⟩;rcases e with⟨_,a⟩|⟨a,_,_⟩
  .exact a
  .exact absurd qj.1 a
 |m+4,h=>
  have b:st gk 4=none:=by
   have:=qh.2.2.2.2;cases g:st gk 4 with
   |none=>rfl
   |some s=>rw[g]at this;exact absurd this (by simp)
  rw[vS b (by omega)]at h;cases h
end Z
namespace Z
theorem FO:∃m A:Tr,g3.tries.filter (λr=>r.ok)=[m,A]/\(m.t=0/\m.h=7/16/\m.y=[1])/\A.t=7/16/\A.h=9/16/\A.y=[785/512]:=by
 have f:=qj.2.2
 match l:g3.tries,f with
 |[C,m,A],f=>
  simp only[List.map_cons,List.map_nil,List.cons.injEq,Prod.mk.injEq,and_true]at f;obtain⟨⟨_,_,_,k⟩,⟨a,b,c,d⟩,e,g,i,j⟩:=f;exact⟨m,A,by simp[k,d,j],⟨a,b,c⟩,e,g,i⟩
 |[],f=>simp at f
 |[_],f=>simp at f
 |[_,_],f=>simp at f
 |_::_::_::_::_,f=>simp at f
theorem vT:gV gk:=⟨by decide +kernel,by decide +kernel,by decide +kernel,by decide +kernel,by decide +kernel,by decide +kernel⟩
theorem FP:st gk 3=U g3:=by
 have a:=qh.2.2.2.1;unfold g3;cases b:st gk 3 with
 |none=>rw[b]at a;cases a
 |some f=>rfl
theorem vU:hO g3.tries g3.t g3.y:=uK vT (kN vT 3 FP)
theorem nD {n:ay}{u:Rat}(h:(bits u:Int)<=L)(t:Rat):run L t [u] [] [⟨3,0,0,n⟩] []=(aG,[u]):=by
 have a:val ⟨3,0,0,n⟩ t [u] [] []=U u:=by
  unfold val;simp
 rw[run,a];simp only;rw[if_pos h];rfl
end Z
theorem qk {nm:ByteArray}(q:Fq z o b):(Z.qb (false,[],[]) (aE z) (aE o) (aE b) nm).pr=Z.gk.P:=by
 obtain⟨rfl,rfl,rfl⟩:=q;simp only[Pb.pr,Z.qb,Z.gk,aN,List.map_cons,List.map_nil,nA];rfl
theorem ey {q:Rat}(h:q.num.natAbs<4294967296/\q.den<4294967296):E.Lq q 130:=E.Lq.mono ⟨gM h.1,gM h.2⟩ (by decide:1<=130)
def Sw (z o b:Rat)(nm:ByteArray)(t h0 y x u0 u1 k1 k0:Rat):Prop:=((Z.step (Z.qb (false,[],[]) (aE z) (aE o) (aE b) nm).pr t h0 [y]).1=Z.aG/\(Z.step (Z.qb (false,[],[]) (aE z) (aE o) (aE b) nm).pr t h0 [y]).2.ys=[[u0],[u1]])/\
 (∀t,Z.run (Ga.a5 200) t [u0] [] [⟨3,0,0,(false,[],[])⟩] []=(Z.aG,[u0])/\Z.run (Ga.a5 200) t [u1] [] [⟨3,0,0,(false,[],[])⟩] []=(Z.aG,[u1]))/\
 (h0*(b*x)=k1/\k1≠0/\(Z.bits k1:Int)<=Ga.a5 200/\E.Lq k1 130/\E.Lq (x+k1) 130)/\(h0*(b*x+o*k1)=k0/\k0≠0/\(Z.bits k0:Int)<=Ga.a5 200/\E.Lq k0 130/\E.Lq (x+k1+k0) 130)/\(Z.bits (x+k1+k0):Int)<=Ga.a5 200/\E.Lq x 130
theorem FQ {nm:ByteArray}(q:Fq z o b):Sw z o b nm (7/16) (9/16) (785/512) 1 (785/512) (19625/8192) (9/32) (225/512):=by
 unfold Sw;rw[qk q];obtain⟨rfl,rfl,rfl⟩:=q;exact⟨by decide +kernel,λa=>⟨Z.nD (by decide +kernel) a,Z.nD (by decide +kernel) a⟩,⟨by decide +kernel,by decide +kernel,by decide +kernel,ey (by decide +kernel),ey (by decide +kernel)⟩,⟨by decide +kernel,by decide +kernel,by decide +kernel,ey (by decide +kernel),ey (by decide +kernel)⟩,by decide +kernel,ey (by decide +kernel)⟩
theorem FR {nm:ByteArray}(q:Fq z o b):Sw z o b nm 0 (7/16) 1 (1+9/32+225/512) 1 (23/16) (6167/16384) (141841/262144):=by
 unfold Sw;rw[qk q];obtain⟨rfl,rfl,rfl⟩:=q;exact⟨by decide +kernel,λa=>⟨Z.nD (by decide +kernel) a,Z.nD (by decide +kernel) a⟩,⟨by decide +kernel,by decide +kernel,by decide +kernel,ey (by decide +kernel),ey (by decide +kernel)⟩,⟨by decide +kernel,by decide +kernel,by decide +kernel,ey (by decide +kernel),ey (by decide +kernel)⟩,by decide +kernel,ey (by decide +kernel)⟩
theorem hW:(0:Rat)<1+9/32+225/512+6167/16384+141841/262144:=by decide +kernel
def Z.dv (q:Rat):Rat:=mkRat (E.iv (E.aB q.num) (E.val (E.words q.num.natAbs))) (E.val (E.words q.den))
theorem Z.wD (q:Rat):Z.dv q=q:=nA q
theorem FT (q:Fq z o b)(a:Y (((1:Int):Rat)/((4:Int):Rat)=U0))(c:Y (((9:Int):Rat)/((10:Int):Rat)=U2))(d:Y (((1:Int):Rat)/((5:Int):Rat)=U3))(e:Y (((5:Int):Rat)=U4))(f:Y (((1:Int):Rat)/((1000000:Int):Rat)=U5))(i:Y (((0:Int):Rat)=s0))(g:Y (((1:Int):Rat)=e0)):
 (⟨(Z.qb (false,[],[]) (aE z) (aE o) (aE b) ⟨#[104,101,117,110]⟩).pr,⟨Z.dv U0,Z.dv U2,Z.dv U3,Z.dv U4,Z.dv U5,16,100⟩,s0,e0,e0,[e0]⟩:Z.Tk)=Z.gk:=by
 simp only[Z.wD];rw[qk q,<-a.out,<-c.out,<-d.out,<-e.out,<-f.out,<-i.out,<-g.out];have j:((1:Int):Rat)/((4:Int):Rat)=1/4:=by decide +kernel
 have k:((9:Int):Rat)/((10:Int):Rat)=9/10:=by decide +kernel
 have l:((1:Int):Rat)/((5:Int):Rat)=1/5:=by decide +kernel
 have m:((5:Int):Rat)=5:=by decide +kernel
 have n:((1:Int):Rat)/((1000000:Int):Rat)=1/1000000:=by decide +kernel
 have p:((0:Int):Rat)=0:=by decide +kernel
 have r:((1:Int):Rat)=1:=by decide +kernel
 rw[j,k,l,m,n,p,r];rfl
theorem FU (q:Fq z o b)(k:(Z.qb (false,[],[]) (aE z) (aE o) (aE b) ⟨#[104,101,117,110]⟩).right=true)(a:Y (((1:Int):Rat)/((4:Int):Rat)=U0))(c:Y (((9:Int):Rat)/((10:Int):Rat)=U2))(d:Y (((1:Int):Rat)/((5:Int):Rat)=U3))(e:Y (((5:Int):Rat)=U4))(f:Y (((1:Int):Rat)/((1000000:Int):Rat)=U5))(i:Y (((0:Int):Rat)=s0))(g:Y (((1:Int):Rat)=e0)):
 Z.fp (Z.qb (false,[],[]) (aE z) (aE o) (aE b) ⟨#[104,101,117,110]⟩) (Pc.de (List.all [aE U0,aE U2,aE U3,aE U4,aE U5] bV) (Z.dv U0) (Z.dv U2) (Z.dv U3) (Z.dv U4) (Z.dv U5) 16 100==0) 1 s0 e0 e0=true:=by
 simp only[Z.wD];rw[<-a.out,<-c.out,<-d.out,<-e.out,<-f.out,<-i.out,<-g.out]
 have j:List.all [aE (((1:Int):Rat)/((4:Int):Rat)),aE (((9:Int):Rat)/((10:Int):Rat)),aE (((1:Int):Rat)/((5:Int):Rat)),aE ((5:Int):Rat),aE (((1:Int):Rat)/((1000000:Int):Rat))] bV=true:=by
  simp only[List.all_cons,List.all_nil,Bool.and_true];rw[iz (by decide +kernel),iz (by decide +kernel),iz (by decide +kernel),iz (by decide +kernel),iz (by decide +kernel)];rfl
 rw[j];have hw:(Pc.de true (((1:Int):Rat)/((4:Int):Rat)) (((9:Int):Rat)/((10:Int):Rat)) (((1:Int):Rat)/((5:Int):Rat)) ((5:Int):Rat) (((1:Int):Rat)/((1000000:Int):Rat)) 16 100==0)=true:=by decide +kernel
 rw[hw];unfold Z.fp;rw[k];show(true&&(true&&(decide ((1:Int)=1)&&(decide (((0:Int):Rat)<=((1:Int):Rat))&&decide (0<((1:Int):Rat))))))=true
 decide +kernel
theorem vV (h:aF k w v qs)(b:Bs T g w ab old new)(a:53≠T):aF k ab v qs:=ef (aR k) h b a
def vW (s:Z.So)(w:O)(e:aO)(a:O):Prop:= ∃b,e=aw (aY #[af b.toArray,af #[H I 0,H I 0,H I 0,H I 0]])/\nr 100000 130 a b s.tries s.t s.y/\V w a
theorem FV {sd nb nc n0 tl ne rZ:Nat}{ar par bits:Int}{nm:ByteArray}{s3 s4 s5:Bool}{A3 A4 A5 D3 D4 D5:Option am}{l1 l2 l3 l4 l5 m1 m2 m3 m4 m5:List Nat}{c5 e1 e2 e3 e4 e5:Nat}{fi mo:Int}{sS sE sF:Bool}{AS DS AE DE AF DF YK:Option am}{nS cS mS dS mE dE nF cH mF dF:Nat}{k:Z.Tk}{g:Z.So}(A:∀t,V w t->aj ae 7 #[af #[D TA sd aH,D TB nb cB,H I ar,H I par,al nm,D SC nc cc,D SA n0 ca,D SB tl cb,D SE ne ce,D PA rZ cp,H I bits,J s1,D A1 l1.length c1,D D1 m1.length e1,J s2,D A2 l2.length c2,D D2 m2.length e2,J s3,D A3 l3.length c3,D D3 m3.length e3,J s4,D A4 l4.length c4,D D4 m4.length e4,J s5,D A5 l5.length c5,D D5 m5.length e5,H I fi,H I mo,J sS,D AS nS cS,D DS mS dS,J sE,D AE nE cE,D DE mE dE,J sF,D AF nF cH,D DF mF dF,D YK nK cK]] t (nt true k t))(ai:Y (∀s f,Z.Ends k s f->s=g/\f=Z.aG)):
 aj ae 20 #[af #[D TA sd aH,D TB nb cB,H I ar,H I par,al nm,D SC nc cc,D SA n0 ca,D SB tl cb,D SE ne ce,D PA rZ cp,H I bits,J s1,D A1 l1.length c1,D D1 m1.length e1,J s2,D A2 l2.length c2,D D2 m2.length e2,J s3,D A3 l3.length c3,D D3 m3.length e3,J s4,D A4 l4.length c4,D D4 m4.length e4,J s5,D A5 l5.length c5,D D5 m5.length e5,H I fi,H I mo,J sS,D AS nS cS,D DS mS dS,J sE,D AE nE cE,D DE mE dE,J sF,D AF nF cH,D DF mF dF,D YK nK cK]] w (vW g w):=by
 have L:=G A;clear A;go_enter func20,ntmps20;go_upto_region 1 with fail
 generalize j:ah (ah (ah w _) _) _=t at*;obtain⟨e,d,b,a⟩:=dm j;clear j;have q:=b.c5;have C:=b.free;have r:=a.c4;have y:=a.free;go_wp2_with(with_reducible show wpList _ _ _ _ _ _;refine ex (o:=⟨_,Op.load 57 _,_,_,_,_⟩) _ rfl (by kernel_rfl) rfl hP hQ d rfl rfl ?_);refine(L.out _ e).mono ?_;rintro aI w1 ⟨E,_,an⟩;obtain⟨aO,s,f,rfl,ak,ab,_⟩:=an rfl;obtain⟨rfl,rfl⟩:=ai.out s f ab;obtain⟨M,F,K,Q,aD,X,aq,k1,ao,aa,cy,rfl,⟨aN,m⟩,p,n⟩:=ak;revert e d b a q;refine b8 E ?_;intro e d b a q;replace C:=b.free;replace r:=a.c4;replace y:=a.free;clear E;unfold cJ Z.aG;have av:=b.d5;have ax:=b.fa;have az:=a.d4;have aB:=a.fa;have aw:=λv x=>(b.up (((V.refl _).alloc v).alloc x)).c5
 have ay:=b.eE;have aA:=λv x=>(a.up (((V.refl _).alloc v).alloc x)).c4
 have aC:=a.eE;go_wp2_with fail;clear av ax az aB aw ay aA aC;generalize j:ah (ah w1 _) _=N at*;obtain⟨B,i,l⟩:=br j;clear j;have aF:=d.lt;have aJ:=b.lt;have aL:=a.lt;have aG:=d.lt;have aK:=b.lt;have aM:=a.lt;revert m p n e d b a q;refine b9 B ?_;intro m p n e d b a q;replace C:=b.free;replace r:=a.c4;replace y:=a.free;clear B;have u:=l.c4;have R:=i.k 0;have S:=i.k 1;have T:=i.k 2;have U:=i.k 3;have W:=i.k 4
 go_region
 generalize j:ag (ag (ag (ag (ag N _ _) _ _) _ _) _ _) _ _=P at*;have c:=e8 b j;clear j;replace p:=p.kw c.kw;replace n:=vV n c (by decide);replace m:=m.bs c (by decide);replace d:=d.bs c;replace a:=a.bs c;replace i:=i.bs c;replace l:=l.bs c;replace b:=c.new;replace e:=e.bs c;clear c;clear R S T U W;replace q:=b.c5;replace r:=a.c4;replace y:=a.free;replace u:=l.c4;generalize j:ag (ag (ag (ag P _ _) _ _) _ _) _ _=z at*;have c:=bp a j;clear j;replace p:=p.kw c.kw;replace n:=vV n c (by decide);replace m:=m.bs c (by decide);replace d:=d.bs c;replace b:=b.bs c;replace i:=i.bs c;replace l:=l.bs c;replace a:=c.new;replace e:=e.bs c;clear c;replace q:=b.c5;replace r:=a.c4;replace u:=l.c4;revert p n m d b i l a e q r u;refine au (V.refl z).drew ?_;intro p n m d b i l a e q r u;generalize z.drew=aE at*;go_wp2_with fail;exact a4 (gl rfl rfl rfl kO kP bM bN b rfl a rfl) rfl ⟨_,rfl,⟨M,F,K,Q,aD,X,aq,k1,ao,aa,cy,rfl,⟨_,m⟩,p,n⟩,e⟩
theorem vX {k c:Nat}{w0 w:O}{A:Option am}{y1 y2:List Rat}(h:bk k w0 w (D A 2 c) [y1,y2]):∃(g:Nat) (b d:Option am) (c1 c2:Nat) (more:List W),A=U ⟨g,0,none⟩/\Bx 44 w g ([D b y1.length c1,D d y2.length c2]++more)/\aF k w (D b y1.length c1) y1/\aF k w (D d y2.length c2) y2:=by
 obtain⟨n,ha,l⟩:=h
 match n,ha with
 |[C,F],ha=>
  obtain⟨u1,e,i⟩:it k w C y1:=ha.2 0 _ _ rfl rfl;obtain⟨u2,f,j⟩:it k w F y2:=ha.2 1 _ _ rfl rfl;subst e f;obtain⟨b,c1,e⟩:=i.form;obtain⟨d,c2,f⟩:=j.form;subst e f;rcases l.2 with⟨_,a⟩|⟨g,o,a,hb,m,_⟩
  .cases a
  .injection a with a
   exact⟨g,b,d,c1,c2,o.flatten,a,m,i,j⟩
 |[],ha=>exact absurd ha.1 (by simp)
 |[_],ha=>exact absurd ha.1 (by simp)
 |_::_::_::_,ha=>exact absurd ha.1 (by simp)
theorem vZ (w:O):aj ae 119 #[az (U ⟨g,0,none⟩),D A 0 c] w λe a=>e=aw (aY #[H I 0,J true])/\V w a:=by
 go_enter func119,ntmps119;go_wp2_with fail;refine wp_loop_rounds 1 ?_;rw[a9];go_wp2_with fail
 go_ret2
 exact⟨rfl,V.refl w⟩
theorem FW (j:Bx 253 w gm cs)(p:cs[25]? =U (az (U ⟨gg,0,none⟩))):
 aj ae 189 #[az (U ⟨gm,0,none⟩),D A 0 c,H I i] w λe s=>e=aw (af #[H I 0,H I 0,H I 0,H I 0])/\V w s:=by
 have k:=j.cell p;clear j;have q:=λm=>cx (o:=m) k
 go_enter func189,ntmps189;go_wp2_with fail;generalize d:ah w _=t at*;obtain⟨b,a⟩:=aC d;clear d;have g:=a.c4;have r:=a.free;clear k q
 ((with_reducible refine(vZ _).mono ?_))
 rintro e n ⟨rfl,l⟩;revert b a g;refine bo l ?_;intro b a g;replace r:=a.free;clear l;go_wp2_with fail;generalize d:ag (ag (ag (ag n _ _) _ _) _ _) _ _=u at*;have f:=bp a d;clear d;replace a:=f.new;replace b:=b.bs f;clear f;replace g:=a.c4;go_wp2_with fail;exact a4 (cl rfl rfl bM bN a rfl) rfl ⟨rfl,b⟩
def FX (g w:O)(i gg j:Nat)(xs:List W)(s:Rat)(e:aO)(a:O):Prop:=e=aw (af #[H I 0,H I 0,H I 0,H I 0])/\V g a/\dV w a/\ ∃(c b:Option am) (f d:Nat),Bx 253 a i (xs++[D c 1 f,D b 0 d,az (U ⟨gg,0,none⟩)])/\aL 130 g a (D c 1 f) [s]/\(∀w2,aU 2 w2 (D b 0 d) [])
theorem FY {n:ay}{nm:ByteArray}{cs:Nat}{YA:Nat->Option am}
 (a7:c7 kp wb [D TA 1 aH,D TB 1 cB,H I 1,H I 0,al nm,D SC 2 cc,D SA 2 ca,D SB 2 cb,D SE 2 ce,D PA 0 cp,H I 200] (Z.qb n (aE z) (aE o) (aE b) nm))(bd:Y (eD (Z.qb n (aE z) (aE o) (aE b) nm)))(ba:Y (Z.c9 [⟨3,0,0,n⟩] [0] 1 0=true))(au:dG w0 wb (D SC 2 cc) (D SA 2 ca) (D SB 2 cb) (D SE 2 ce) z o b)(bh:Fr wb (af #[J s1,D A1 n1 c1,D D1 m1 d1]) t 90000)(a1:Fr wb (af #[J s2,D A2 n2 c2,D D2 m2 d2]) h0 90000)(aZ:aU 130 wb (D CW 1 cw) [x])
 (aX:Bx 44 wb fZ ([D (YA 0) 1 (yc 0),D (YA 1) 1 (yc 1)]++more))(aY:Y (∀j,aU 130 wb (D (YA j) 1 (yc j)) [yv j]))(bb:Y (∀j t,Z.run (Ga.a5 200) t [yv j] [] [⟨3,0,0,n⟩] []=(Z.aG,[yv j])))
 (K:Bx 253 w gm [D TA 1 aH,D TB 1 cB,H I 1,H I 0,al nm,D SC 2 cc,D SA 2 ca,D SB 2 cb,D SE 2 ce,D PA 0 cp,H I 200,J s1,D A1 n1 c1,D D1 m1 d1,J s2,D A2 n2 c2,D D2 m2 d2,D CW 1 cw,D (U ⟨fZ,0,none⟩) 2 cY,D MK nK cK,D MN nN gU,D ME nE cE,D (U ⟨gy,0,none⟩) 2 2,D SY 1 cs,D SP 0 fU,az (U ⟨gg,0,none⟩)])(N:Bx 44 w gy [D none 0 0,D none 0 0])(C:Bx 154 w gg [H I 0,H I 0,H I (Ga.a5 200)])(bf:aL 130 ws w (D SY 1 cs) [s])(bJ:Y (∀w2,aU 2 w2 (D SP 0 fU) []))
 (a3:Y (h0*(b*x)=k1/\k1≠0/\(Z.bits k1:Int)<=Ga.a5 200/\E.Lq k1 130/\E.Lq (s+k1) 130))(a2:Y (h0*(b*x+o*k1)=k0/\k0≠0/\(Z.bits k0:Int)<=Ga.a5 200/\E.Lq k0 130/\E.Lq (s+k1+k0) 130))(bL:Y ((Z.bits (s+k1+k0):Int)<=Ga.a5 200))(a5:kp<=1000)(av:V wb w)(ar:wb.heap.size<=gm/\wb.heap.size<=gg/\wb.heap.size<=gy):
 aj ae 160 #[az (U ⟨gm,0,none⟩)] w (FX wb w gm gg gy [D TA 1 aH,D TB 1 cB,H I 1,H I 0,al nm,D SC 2 cc,D SA 2 ca,D SB 2 cb,D SE 2 ce,D PA 0 cp,H I 200,J s1,D A1 n1 c1,D D1 m1 d1,J s2,D A2 n2 c2,D D2 m2 d2,D CW 1 cw,D (U ⟨fZ,0,none⟩) 2 cY,D MK nK cK,D MN nN gU,D ME nE cE,D (U ⟨gy,0,none⟩) 2 2] (s+k1+k0)):=by
 obtain⟨aT,bX,bT,cy,b2,cr,rfl,aV,_,aW⟩:=vX au.a;have aD:=G a7;have aG:=G bh;have S:=G a1;have ax:=G aZ;have aJ:=G aX;have bm:=G aV;have bs:=G aW;have aw:=G au.b;have bI:gm≠gg:=cL K C (by decide);have cj:gy≠gg:=cL N C (by decide);have ci:gm≠gy:=cL K N (by decide);have aB:=G K;have aA:=G C;have aK:=G N;have aF:=G bf;have aI:=G av;have cd:wb.heap.size<=w.heap.size:=av.size;have cf:=K.lt;have cg:=C.lt;have ch:=N.lt;clear K C N bf av bh a1 aZ aX aV aW au a7;go_enter func160,ntmps160;go_upto_region 1 with fail
 generalize k:ah w _=bv at*;obtain⟨c,a⟩:=aC k;clear k;have f:=a.c4;have l:=a.free;have g:=(dV.refl w).up c;have d:=aB.out.up c;have p:=aK.out.up c;have gb:=aA.out.up c;have e:=aF.out.up c;have c:=aI.out.trans c;clear aB aA aK aF aI;have f:=a.c4;have l:=a.free;have ck:=d.k 7;have bo:Y (Pq.sc h0 (Pq.sc b [x])=[k1]):=G (by unfold Pq.sc;simp[a3.out.1]);have bn:Y (Pq.sc h0 (Pq.zt (Pq.sc b [x]) (Pq.sc o [k1]) 1)=[k0]):=G (by unfold Pq.sc Pq.zt;simp[a2.out.1]);go_wp2_with fail;refine wp_loop_rounds 3 ?_;rw[a9];go_wp2_with fail
 have M:∀m,V bv m->aj ae 210 #[az (U ⟨gm,0,none⟩),H I ((1:Nat):Int)] m (dT (90000+(1+130)) [k1] m):=λm i=>by
  rw[<-bo.out];exact FE (d.up i) (aw.out.up (c.trans i)) (S.out.up (c.trans i)) (ax.out.up (c.trans i)) (by decide)
 have A:=G M;clear M;have y:=vR (j:=1) aD.out bd ba (by decide) aG.out S.out aJ.out aY bb d p gb e bJ A.out (G a3.out.2) (by decide) (by omega) a5 c ar;rw[show((1:Nat):Int)=1 from rfl]at y
 ((with_reducible refine y.mono ?_))
 clear y;rintro aq T ⟨rfl,B,u,bz,aM,bu,bC,aO,bB,b0,b5,b9,L,X,ai,bl,bj,F⟩;have br:=G bj;clear bj;replace g:=g.trans u;have R:=u _ _ a;have c:=B;clear d p gb e a f l u B A;have e:aL 130 wb T (D aM 1 aO) [s+k1]:=bl;clear bl;have d:Bx 253 T gm [D TA 1 aH,D TB 1 cB,H I 1,H I 0,al nm,D SC 2 cc,D (U ⟨aT,0,none⟩) 2 ca,D SB 2 cb,D SE 2 ce,D PA 0 cp,H I 200,J s1,D A1 n1 c1,D D1 m1 d1,J s2,D A2 n2 c2,D D2 m2 d2,D CW 1 cw,D (U ⟨fZ,0,none⟩) 2 cY,D MK nK cK,D MN nN gU,D ME nE cE,D (U ⟨gy,0,none⟩) 2 2,D aM 1 aO,D bu 0 bB,az (U ⟨gg,0,none⟩)]:=L;have p:Bx 44 T gy [D none 0 0,D bz 1 bC]:=X;have gb:=F;have a:=R;clear L X F R;have f:=a.c4;have l:=a.free;have P:=ez f;have Q:=a.fa;go_wp2_with fail;clear P Q;generalize k:ah T _=bw at*;obtain⟨q,aP⟩:=aC k;clear k;have cm:=d.lt;have cz:=p.lt;have b6:=gb.lt;have cu:=a.lt;revert ai g c e d p gb a f;refine bE q ?_;intro ai g c e d p gb a f;replace l:=a.free;clear q;have bD:=aP.c4;rw[a9];go_wp2_with fail
 have M:∀m,V bw m->aj ae 210 #[az (U ⟨gm,0,none⟩),H I ((0:Nat):Int)] m (dT (90000+(1+130+(1+130)+1)) [k0] m):=λm i=>by
  rw[<-bn.out];exact FF (SA:=none) (d.up i) (aw.out.up (c.trans i)) (bm.out.up (c.trans i)) (bs.out.up (c.trans i)) (p.up i) (ai.fs.up i) (S.out.up (c.trans i)) (ax.out.up (c.trans i)) (by decide)
 have A:=G M;clear M aP bD;have y:=vR (j:=0) aD.out bd ba (by decide) aG.out S.out aJ.out aY bb d p gb e br A.out (G a2.out.2) (by decide) (by omega) a5 c ar;rw[show((0:Nat):Int)=0 from rfl]at y
 ((with_reducible refine y.mono ?_))
 clear y;rintro aq an ⟨rfl,B,u,bY,ak,bt,b3,ao,bA,bZ,b4,b8,L,X,bR,bk,bi,F⟩;have bq:=G bi;clear bi;replace g:=g.trans u;have R:=u _ _ a;have c:=B;clear d p gb e a f l u B A;have e:aL 130 wb an (D ak 1 ao) [s+k1+k0]:=bk;clear bk ai;have d:Bx 253 an gm [D TA 1 aH,D TB 1 cB,H I 1,H I 0,al nm,D SC 2 cc,D (U ⟨aT,0,none⟩) 2 ca,D SB 2 cb,D SE 2 ce,D PA 0 cp,H I 200,J s1,D A1 n1 c1,D D1 m1 d1,J s2,D A2 n2 c2,D D2 m2 d2,D CW 1 cw,D (U ⟨fZ,0,none⟩) 2 cY,D MK nK cK,D MN nN gU,D ME nE cE,D (U ⟨gy,0,none⟩) 2 2,D ak 1 ao,D bt 0 bA,az (U ⟨gg,0,none⟩)]:=L;have gb:=F;have a:=R;clear L X F R bR;have f:=a.c4;have l:=a.free;have P:=ez f;have Q:=a.fa;go_wp2_with fail;clear P Q;generalize k:ah an _=bU at*;obtain⟨q,aQ⟩:=aC k;clear k;have cn:=d.lt;have b7:=gb.lt;have cv:=a.lt;revert g c e d gb a f;refine bS q ?_;intro g c e d gb a f;replace l:=a.free;clear q;have bF:=aQ.c4;rw[a9];have aa:=d.k 23;have ab:=d.k 24;go_wp2_with fail;have bK:w.heap.size≠gg:=by omega
 refine(vQ d rfl gb e.a (by decide) (by simp) (by omega) ?_).mono ?_
 .show Ga.bad _ [Z.bits (s+k1+k0)]=1;unfold Ga.bad Ga.bad;rw[if_pos bL.out]
 rintro aq aN ⟨b1,ct,rfl,bG,bH,B2⟩;replace a:=B2.bx a bK;replace d:=B2.bx d bI;have e:aL 130 wb aN (D ak 1 ao) [s+k1+k0]:=B2.own (aR _) e gb (by decide);replace g:=g.gb gb B2 (by decide);replace c:=B2.du c ar.2.1;clear gb bG B2 f l aa ab aQ bF bH;have f:=a.c4;have l:=a.free;unfold cJ Z.aG;have aa:=d.k 23;have ab:=d.k 24;have bP:=cA aa;have bQ:=cA ab;have P:=ez f;have Q:=a.fa;go_wp2_with fail;clear bP bQ P Q;generalize k:ah aN _=bV at*;obtain⟨q,v⟩:=aC k;clear k;have co:=d.lt;have cx:=a.lt;clear aa ab;revert a d e g c f;refine bO q ?_;intro a d e g c f;replace l:=a.free;clear q;have aS:=v.c4
 ((with_reducible refine(FW d rfl).mono ?_))
 rintro aq bx ⟨rfl,i⟩;revert v a d e g c f;refine bS i ?_;intro v a d e g c f;replace l:=a.free;replace aS:=v.c4;clear i;go_wp2_with fail;generalize k:ag (ag (ag (ag bx _ _) _ _) _ _) _ _=bW at*;have r:=bp a k;clear k;replace e:=dN e r (by decide);replace g:=g.bs r (.inr (a8 _));replace d:=d.bs r;replace v:=v.bs r;replace a:=r.new;replace c:=c.bs r;clear r;clear f;have f:=a.c4;replace aS:=v.c4;go_wp2_with fail;exact a4 (cl rfl rfl bM bN a rfl) rfl ⟨rfl,c,g,_,_,_,_,d,e,bq.out⟩
def ql (u0 u1:Rat)(w:O)(e:aO)(a:O):Prop:= ∃(g o:Nat) (j:Option am) (r m:Nat) (k:Option am) (s n:Nat) (i:Option am) (q l:Nat) (b:Option am) (d:Nat) (c:Option am) (f:Nat) (p:List W),e=aw (aY #[af #[D (U ⟨g,0,none⟩) 2 o,D j r m,D k s n,D i q l],af #[H I 0,H I 0,H I 0,H I 0]])/\Bx 44 a g ([D b 1 d,D c 1 f]++p)/\aF 130 a (D b 1 d) [u0]/\aF 130 a (D c 1 f) [u1]/\V w a
theorem ql.of {z:bv×Z.Md}(d:z.1=Z.aG)(A:z.2.ys=[[u0],[u1]])(h:hN z w e ab):ql u0 u1 w e ab:=by
 obtain⟨J,H,I,vE,b,⟨_,⟨i,D,n,q⟩,⟨j,E,o,r⟩,⟨f,C,m,s⟩⟩,y,x⟩:=h;have a:=(x d).1;rw[A]at a;obtain⟨G,c,p⟩:=a.form;subst p q r s;obtain⟨g,k,l,u,v,B,t,hb,F,r1⟩:=vX a;subst t;rw[d]at b;exact⟨g,c,i,D,n,j,E,o,f,C,m,k,u,l,v,B,b,hb,F,r1,y⟩
theorem FZ:d8 44 (D none 0 0) 1 24:=by unfold d8;kernel_rfl
theorem F0 (w:O):aj ae 49 #[H I 1] w (dT 2 [0] w):=mU (n:=1) (by decide) w
theorem v4 (w:O):aj ae 49 #[H I 0] w (dT 2 [] w):=mU (n:=0) (by decide) w
def hR {α:Type}(a b:α):Nat->α
 |0=>a
 |_+1=>b
def v5 (y:Rat)(w:O)(e:aO)(f:O):Prop:= ∃(b a:Option am) (d c:Nat),e=aw (aY #[af #[D b 1 d,D a 0 c],af #[H I 0,H I 0,H I 0,H I 0]])/\aL 130 w f (D b 1 d) [y]/\(∀w2,aU 2 w2 (D a 0 c) [])/\V w f
theorem F1 {n:ay}{nm:ByteArray}{CY:Option am}
 (cG:c7 kp w [D TA 1 aH,D TB 1 cB,H I 1,H I 0,al nm,D SC 2 cc,D SA 2 ca,D SB 2 cb,D SE 2 ce,D PA 0 cp,H I 200] (Z.qb n (aE z) (aE o) (aE b) nm))(cI:Y (eD (Z.qb n (aE z) (aE o) (aE b) nm)))(dC:Y ((Z.qb n (aE z) (aE o) (aE b) nm).right=true))(dD:Y (Z.c9 [⟨3,0,0,n⟩] [0] 1 0=true))(cJ:dG w0 w (D SC 2 cc) (D SA 2 ca) (D SB 2 cb) (D SE 2 ce) z o b)(cK:Fr w (af #[J s1,D A1 n1 c1,D D1 m1 d1]) t 90000)(bP:Fr w (af #[J s2,D A2 n2 c2,D D2 m2 d2]) h0 90000)(cM:aU ky w (D CY 1 cy) [y])(A:aF 130 w (D CW 1 cw) [x])
 (ct:Y ((Z.step (Z.qb n (aE z) (aE o) (aE b) nm).pr t h0 [y]).1=Z.aG/\(Z.step (Z.qb n (aE z) (aE o) (aE b) nm).pr t h0 [y]).2.ys=[[u0],[u1]]))(cH:Y (∀t,Z.run (Ga.a5 200) t [u0] [] [⟨3,0,0,n⟩] []=(Z.aG,[u0])/\Z.run (Ga.a5 200) t [u1] [] [⟨3,0,0,n⟩] []=(Z.aG,[u1])))
 (dz:Y (h0*(b*x)=k1/\k1≠0/\(Z.bits k1:Int)<=Ga.a5 200/\E.Lq k1 130/\E.Lq (x+k1) 130))(dy:Y (h0*(b*x+o*k1)=k0/\k0≠0/\(Z.bits k0:Int)<=Ga.a5 200/\E.Lq k0 130/\E.Lq (x+k1+k0) 130))(cN:Y ((Z.bits (x+k1+k0):Int)<=Ga.a5 200/\E.Lq x 130))(cv:kp<=1000)(dA:ky<=1000):
 aj ae 131 #[af #[D TA 1 aH,D TB 1 cB,H I 1,H I 0,al nm,D SC 2 cc,D SA 2 ca,D SB 2 cb,D SE 2 ce,D PA 0 cp,H I 200],af #[J s1,D A1 n1 c1,D D1 m1 d1],af #[J s2,D A2 n2 c2,D D2 m2 d2],D CY 1 cy,D CW 1 cw] w (v5 (x+k1+k0) w):=by
 have b7:=G cG;have c3:=G cJ;have cg:=G cK;have b4:=G bP;have c8:=G cM;clear cG cJ cK bP cM;have a:V w (((((w.alloc (ao #[D TA 1 aH,D TB 1 cB,H I 1,H I 0,al nm,D SC 2 cc,D SA 2 ca,D SB 2 cb,D SE 2 ce,D PA 0 cp,H I 200] 49)).alloc (ao #[J s1,D A1 n1 c1,D D1 m1 d1] 53)).alloc (ao #[J s2,D A2 n2 c2,D D2 m2 d2] 53)).alloc (ao #[D none 0 0,D none 0 0] 84)).alloc (ao #[H I 0,H I 0,H I 0,H I 0] 63)):=(((((V.refl w).alloc _).alloc _).alloc _).alloc _).alloc _;obtain⟨c,e,f,j,d⟩:=Cy 49 53 53 84 63 w [D TA 1 aH,D TB 1 cB,H I 1,H I 0,al nm,D SC 2 cc,D SA 2 ca,D SB 2 cb,D SE 2 ce,D PA 0 cp,H I 200] [J s1,D A1 n1 c1,D D1 m1 d1] [J s2,D A2 n2 c2,D D2 m2 d2] [D none 0 0,D none 0 0] [H I 0,H I 0,H I 0,H I 0];go_enter func131,ntmps131;obtain⟨R,W,ab,ai,an,aq,ar,aw,aA,s,X⟩:=c.ek;have aB:=e.k 0;have aD:=e.k 1;have aG:=e.k 2;have aI:=f.k 0;have aJ:=f.k 1;have aK:=f.k 2;go_wp2_with fail;generalize(((((w.alloc (ao #[D TA 1 aH,D TB 1 cB,H I 1,H I 0,al nm,D SC 2 cc,D SA 2 ca,D SB 2 cb,D SE 2 ce,D PA 0 cp,H I 200] 49)).alloc (ao #[J s1,D A1 n1 c1,D D1 m1 d1] 53)).alloc (ao #[J s2,D A2 n2 c2,D D2 m2 d2] 53)).alloc (ao #[D none 0 0,D none 0 0] 84)).alloc (ao #[H I 0,H I 0,H I 0,H I 0] 63))=bK at*;replace A:=A.up a;clear R W ab ai an aq ar aw aA s X aB aD aG aI aJ aK;have m:=j.c2;have a1:=j.free;have p:=d.c4;have aP:=d.free
 ((with_reducible refine((pG (b7.out.up a) cI dC (cg.out.up a) (b4.out.up a) (c8.out.up a) (G rfl) (by decide) (by decide) dA cv).mono λ_ _ bY=>ql.of ct.out.1 ct.out.2 bY).mono ?_))
 rintro bu ck ⟨bd,bt,bk,bw,bq,bl,bx,bs,bj,bv,bo,bR,bU,bS,bV,dI,rfl,q,aN,aO,cS⟩;clear p;revert a c e f j d A m;refine b9 cS ?_;intro a c e f j d A m;replace a1:=j.free;have p:=d.c4;replace aP:=d.free;clear cS;have bz:=ez m;have bA:=j.fa;have bB:=ez p;have bD:=d.fa;have dJ:=f1 m;have dK:=j.eE;have dL:=f1 p;have dM:=d.eE;go_wp2_with fail;clear bz bA bB bD dJ dK dL dM;generalize u:ah (ah ck _) _=dU at*;obtain⟨r,g,N⟩:=br u;clear u;have dZ:=c.lt;have ea:=e.lt;have ef:=f.lt;have eB:=j.lt;have eG:=d.lt;have dY:=c.lt;have d9:=e.lt;have ee:=f.lt;have ey:=j.lt;have eE:=d.lt;clear p;revert q aN aO a c e f j d A m;refine bC r ?_;intro q aN aO a c e f j d A m;replace a1:=j.free;have p:=d.c4;replace aP:=d.free;clear r;have aR:=N.c4;go_wp2_with fail
 with_reducible refine(F0 _).mono ?_
 rintro bu dV ⟨dS,rfl,bF,u2⟩;clear p aR;revert g N q aN aO a c e f j d A;refine au u2 ?_;intro g N q aN aO a c e f j d A;revert m;refine cj u2 ?_;intro m;replace a1:=j.free;have p:=d.c4;replace aP:=d.free;have aR:=N.c4;clear u2;obtain⟨cV,cz,(dn:_=D cV 1 cz)⟩:=bF.form;subst dn;have co:∀w2,aU 2 w2 (D none 0 0) []:=λw2=>⟨none,0,[],rfl,by simp,by simp[cm],Al.nil _,b2.nil _ _⟩
 have cq:x+0=x:=Rat.add_zero x;go_wp2_with fail
 with_reducible refine((vP (K:=130) A.fs ((aL.mono bF (by omega)).fs) (co _) (co _) (G (by rw[cq];exact cN.out.2)) (by decide)).mono λ_ _ bY=>nC.of a bY).mono ?_
 rintro bu ch ⟨cY,dQ,df,ei,rfl,F,ap,u3⟩;clear p aR;revert g N q aN aO c e f j d A bF;refine au u3 ?_;intro g N q aN aO c e f j d A bF;revert a m;refine cR u3 ?_;intro a m;replace a1:=j.free;have p:=d.c4;replace aP:=d.free;have aR:=N.c4;clear u3;rw[cq]at F;have dR:=G ap;clear ap;clear bF;have bz:=ez m;have bA:=j.fa;have bB:=ez p;have bD:=d.fa;have dq:=ez aR;go_upto_region 7 with fail
 clear bz bA bB bD dq;generalize u:ah ch _=C at*;obtain⟨r,B⟩:=aC u;clear u;have d0:=c.lt;have eb:=e.lt;have eg:=f.lt;have eC:=j.lt;have eH:=d.lt;have ev:=g.lt;have el:=N.lt;clear p aR;revert F g N q aN aO c e f j d A;refine au r ?_;intro F g N q aN aO c e f j d A;revert a m;refine cR r ?_;intro a m;replace a1:=j.free;have p:=d.c4;replace aP:=d.free;have aR:=N.c4;clear r;have bH:=G c;have b1:=G e;have b3:=G f;have b6:=G g;have bT:=G B;have cd:=G j;have cf:=G d;have a5:=G a;have b0:=G F;have c6:=G q;have c4:=G aN.fs;have c5:=G aO.fs;clear q aN aO;have cZ:=G A;clear a c e f g B j d F N A aR m p a1 aP
 go_cut [16] (λdO bQ=> ∃a8 bh bb:Nat,dO=az (U ⟨a8,0,none⟩)/\(C.heap.size<=a8/\C.heap.size<=bb/\C.heap.size<=bh)/\Bx 253 bQ a8 [D TA 1 aH,D TB 1 cB,H I 1,H I 0,al nm,D SC 2 cc,D SA 2 ca,D SB 2 cb,D SE 2 ce,D PA 0 cp,H I 200,J s1,D A1 n1 c1,D D1 m1 d1,J s2,D A2 n2 c2,D D2 m2 d2,D CW 1 cw,D (U ⟨bd,0,none⟩) 2 bt,D bk bw bq,D bl bx bs,D bj bv bo,D (U ⟨bh,0,none⟩) 2 2,D none 0 0,D none 0 0,az (U ⟨bb,0,none⟩)]/\Bx 44 bQ bh [D none 0 0,D none 0 0]/\Bx 154 bQ bb [H I 0,H I 0,H I (Ga.a5 200)]/\V C bQ)
 case first=>
  have a:=V.refl C;have c:=bH.out;have e:=b1.out;have f:=b3.out;have g:=b6.out;obtain⟨R,W,ab,ai,an,aq,ar,aw,aA,s,X⟩:=c.ek;have aB:=e.k 0;have aD:=e.k 1;have aG:=e.k 2;have aI:=f.k 0;have aJ:=f.k 1;have aK:=f.k 2;have aS:=g.k 0;have aT:=g.k 1;have aV:=g.k 2;have aY:=g.k 3;revert a c e f g R W ab ai an aq ar;refine au (V.refl C).drew ?_;intro a c e f g R W ab ai an aq ar;revert aw aA s X aB aD aG aI aJ aK aS aT;refine au (V.refl C).drew ?_;intro aw aA s X aB aD aG aI aJ aK aS aT;revert aV aY;refine cR (V.refl C).drew ?_;intro aV aY
  refine aZ ?_;refine a3 (S:=λaQ=>V C aQ/\Cz aQ (w.heap.size) 0 [D TA 1 aH,D TB 1 cB,H I 1,H I 0,al nm,D SC 2 cc,D SA 2 ca,D SB 2 cb,D SE 2 ce,D PA 0 cp,H I 200]/\Cz aQ (w.heap.size+1) 0 [J s1,D A1 n1 c1,D D1 m1 d1]/\Cz aQ (w.heap.size+1+1) 0 [J s2,D A2 n2 c2,D D2 m2 d2]/\Cz aQ (ck.heap.size) 0 [D (U ⟨bd,0,none⟩) 2 bt,D bk bw bq,D bl bx bs,D bj bv bo]) (by kernel_rfl) (by exact⟨a,c.cz,e.cz,f.cz,g.cz⟩) (λM=> ?_);generalize C.drew=P at*;refine aa 0 ?_;refine aa 1 ?_;refine aa 2 ?_;refine aa 3 ?_;refine aa 4 ?_;refine aa 5 ?_;refine aa 6 ?_;refine aa 7 ?_;refine aa 8 ?_;refine aa 10 ?_;refine aa 11 ?_
  repeat' first
   |(have L:=cE;clear cE
     (try clear M)
     refine fm (by rfl) ?_;refine uG underlying45 FZ (by decide) (.tmp 63) (.tmp 63) (by rfl) 2 (by rfl) (by rfl) rfl (by decide) ?_;intro bL cU r;have ba:Bx 44 bL P.heap.size [D none 0 0,D none 0 0]:=by simpa[madeCells,List.range_succ,Value.cells]using cU
     clear cU;have d7:=c.lt;have ec:=e.lt;have eh:=f.lt;have ew:=g.lt;have dP:=a.size
     try(have ek:=cb.lt)
     try(replace gb:=gb.up r)
     revert a c e f g;refine b8 r ?_;intro a c e f g
     try(replace cb:=cb.up r)
     clear r;generalize P.heap.size=bX at*;obtain⟨P,bZ⟩:∃bK,bK=bL:=⟨_,rfl⟩;subst bZ;clear R W ab ai an aq ar aw aA s X;obtain⟨R,W,ab,ai,an,aq,ar,aw,aA,s,X⟩:=c.ek;clear aB aD aG;have aB:=e.k 0;have aD:=e.k 1;have aG:=e.k 2;clear aI aJ aK;have aI:=f.k 0;have aJ:=f.k 1;have aK:=f.k 2;clear aS aT aV aY;have aS:=g.k 0;have aT:=g.k 1;have aV:=g.k 2;have aY:=g.k 3;refine ax L (by exact⟨a,c.cz,e.cz,f.cz,g.cz⟩) (λM=> ?_);clear L K)
   |(have L:=cu;clear cu
     (try clear M)
     go_simp;go_at_call 40
     with_reducible refine((kq (by decide) _).mono λ_ _ bP=>kG.of a bP).mono ?_
     rintro bu P ⟨bW,rfl,gb,dw,a2⟩;revert a c e f g R W ab ai an aq ar;refine au a2 ?_;intro a c e f g R W ab ai an aq ar;revert aw aA s X;refine bf a2 ?_;intro aw aA s X
     try(replace ba:=ba.up a2)
     try(replace cb:=cb.up a2)
     clear aB aD aG;have aB:=e.k 0;have aD:=e.k 1;have aG:=e.k 2;clear aI aJ aK;have aI:=f.k 0;have aJ:=f.k 1;have aK:=f.k 2;clear aS aT aV aY;have aS:=g.k 0;have aT:=g.k 1;have aV:=g.k 2;have aY:=g.k 3;clear a2
     try go_wp2_with fail
     refine ax L (by exact⟨a,c.cz,e.cz,f.cz,g.cz⟩) (λM=> ?_);clear L K)
   |(have L:=cC;clear cC
     (try clear M)
     refine fm (by rfl) ?_;refine kM (T:=253) (v:=af #[D TA 1 aH,D TB 1 cB,H I 1,H I 0,al nm,D SC 2 cc,D SA 2 ca,D SB 2 cb,D SE 2 ce,D PA 0 cp,H I 200,J s1,D A1 n1 c1,D D1 m1 d1,J s2,D A2 n2 c2,D D2 m2 d2,D CW 1 cw,D (U ⟨bd,0,none⟩) 2 bt,D bk bw bq,D bl bx bs,D bj bv bo,D (U ⟨bX,0,none⟩) 2 2,D none 0 0,D none 0 0,az (U ⟨bW,0,none⟩)]) (.tmp 68) (by rfl) (cs:=[D TA 1 aH,D TB 1 cB,H I 1,H I 0,al nm,D SC 2 cc,D SA 2 ca,D SB 2 cb,D SE 2 ce,D PA 0 cp,H I 200,J s1,D A1 n1 c1,D D1 m1 d1,J s2,D A2 n2 c2,D D2 m2 d2,D CW 1 cw,D (U ⟨bd,0,none⟩) 2 bt,D bk bw bq,D bl bx bs,D bj bv bo,D (U ⟨bX,0,none⟩) 2 2,D none 0 0,D none 0 0,az (U ⟨bW,0,none⟩)]) (by rfl) (by rfl) ?_;intro bL cb r;have dX:=c.lt;have d8:=e.lt;have ed:=f.lt;have eu:=g.lt;have dg:=a.size
     try(have eJ:=ba.lt)
     try(replace gb:=gb.up r)
     revert a c e f g;refine b8 r ?_;intro a c e f g
     try(replace ba:=ba.up r)
     clear r;generalize P.heap.size=dt at*;obtain⟨P,bZ⟩:∃bK,bK=bL:=⟨_,rfl⟩;subst bZ;clear R W ab ai an aq ar aw aA s X;obtain⟨R,W,ab,ai,an,aq,ar,aw,aA,s,X⟩:=c.ek;clear aB aD aG;have aB:=e.k 0;have aD:=e.k 1;have aG:=e.k 2;clear aI aJ aK;have aI:=f.k 0;have aJ:=f.k 1;have aK:=f.k 2;clear aS aT aV aY;have aS:=g.k 0;have aT:=g.k 1;have aV:=g.k 2;have aY:=g.k 3;refine ax L (by exact⟨a,c.cz,e.cz,f.cz,g.cz⟩) (λM=> ?_);clear L K)
   |(with_reducible show b5 _ _ _ _ _ _ _ _ _ _
     first
      |refine av (i:=9) rfl (λK cE=> ?_) ?_
      |refine av (i:=12) rfl (λK cu=> ?_) ?_
      |refine av (i:=14) rfl (λK cC=> ?_) ?_
      |exact bm)
   |(with_reducible show bJ _ _ _ _ _ _ _ _ _
     first
      |refine ak [9,12] ?_
      |refine ak [9] ?_
      |refine ak [12] ?_
      |refine ak [14] ?_
      |refine aa 13 ?_
      |refine aa 15 ?_
      |refine aW (by decide +kernel) (aX ?_) _)
   |fail
  all_goals try clear M
  all_goals have eI:=ba.c2
  all_goals have ej:=cb.wm
  all_goals
   have dB:=dP;have cx:=dg;go_wp2_with fail
   go_meet
   exact⟨dt,bX,bW,rfl,⟨cx,dw,dB⟩,cb,ba,gb,a⟩
 case rest=>
  obtain⟨a8,bh,bb,rfl,dx,l,q,gb,bn⟩:=hcut;have a:=bn;have B:=bT.out.up bn;have c:=bH.out.up bn;have F:=b0.out.up bn;have ep:=bT.out.lt;have cx:=bH.out.lt;have er:a8≠bb:=cL l gb (by decide);have es:a8≠bh:=cL l q (by decide);clear bn bH b1 b3 b6 bT b0;have bi:=B.k 0;have s:=c.k 9;go_wp2_with fail;revert l q gb a B c F bi s;refine bE (V.refl wc).drew ?_;intro l q gb a B c F bi s
  refine aZ ?_;refine a3 (S:=λaQ=>V C aQ/\Cz aQ (ch.heap.size) 0 [D cY 1 df]/\Cz aQ (w.heap.size) 9 [D PA 0 cp]) (by kernel_rfl) (by exact⟨a,B.cy 0 1,c.cy 9 1⟩) (λM=> ?_);generalize wc.drew=P at*;refine aa 0 ?_;refine aa 1 ?_;refine aa 2 ?_;refine aa 3 ?_;refine aa 4 ?_;refine aa 5 ?_
  repeat' first
   |(have L:=cD;clear cD
     (try clear M)
     go_simp;go_at_call 49
     with_reducible refine(v4 P).mono ?_
     rintro bu P ⟨dT,rfl,bG,a2⟩;revert l q gb a B c F bi;refine b9 a2 ?_;intro l q gb a B c F bi
     clear s;have s:=c.k 9;clear a2;obtain⟨cW,dk,(dm:_=D cW 0 dk)⟩:=bG.form;subst dm
     try go_wp2_with fail
     refine ax L (by exact⟨a,B.cy 0 1,c.cy 9 1⟩) (λM=> ?_);clear L K)
   |(have L:=cn;clear cn
     (try clear M)
     have dh:=l.k 23;have di:=l.k 24;have dr:=l.free 23;have ds:=l.free 24;go_simp;clear dh di dr ds;generalize u:ag (ag P _ _) _ _=P at*;have k:=dp l u;clear u;replace F:=dN F k (by decide)
     try(replace bG:=dN bG k (by decide))
     replace q:=q.bs k;replace gb:=gb.bs k;replace B:=B.bs k;replace c:=c.bs k;replace l:=k.new;replace a:=a.bs k;clear k;clear bi;have bi:=B.k 0;clear s;have s:=c.k 9;refine ax L (by exact⟨a,B.cy 0 1,c.cy 9 1⟩) (λM=> ?_);clear L K)
   |(with_reducible show b5 _ _ _ _ _ _ _ _ _ _
     first
      |refine av (i:=6) rfl (λK cD=> ?_) ?_
      |refine av (i:=10) rfl (λK cn=> ?_) ?_
      |exact bm)
   |(with_reducible show bJ _ _ _ _ _ _ _ _ _
     first
      |refine ak [6] ?_
      |refine ak [10] ?_
      |refine aa 7 ?_
      |refine aa 8 ?_
      |refine aa 9 ?_
      |refine aW (by decide +kernel) (aX ?_) _)
   |fail
  all_goals try clear M
  have c9:=G (λw2=>jA (Q:=cX 2) bG.q w2);clear bG;go_wp2_with fail;have du:Bx 44 C bd ([D (hR bR bS 0) 1 (hR bU bV 0),D (hR bR bS 1) 1 (hR bU bV 1)]++dI):=c6.out
  have dv:Y (∀aM,aU 130 C (D (hR bR bS aM) 1 (hR bU bV aM)) [hR u0 u1 aM]):=G λaM=>match aM with
   |0=>c4.out
   |_+1=>c5.out
  have dE:Y (∀aM t,Z.run (Ga.a5 200) t [hR u0 u1 aM] [] [⟨3,0,0,n⟩] []=(Z.aG,[hR u0 u1 aM])):=G λaM t=>match aM with
   |0=>(cH.out t).1
   |_+1=>(cH.out t).2
  have cr:=FY (b7.out.up a5.out) cI dD (c3.out.up a5.out) (cg.out.up a5.out) (b4.out.up a5.out) cZ.out.fs du dv dE l q gb F c9 dz dy (G cN.out.1) cv a dx
  ((with_reducible refine cr.mono ?_))
  rintro bu ci ⟨rfl,bI,da,dc,db,cs,dj,cF,a9,cQ⟩;have c0:=G cQ;have j:=cd.out.up bI;have d:=cf.out.up bI;have en:=cd.out.lt;have eo:=cf.out.lt;have et:w.heap.size<=C.heap.size:=a5.out.size;clear l q gb B c F da cQ cr a;have a:=a5.out.trans bI;clear bI;have l:Bx 253 ci a8 [D TA 1 aH,D TB 1 cB,H I 1,H I 0,al nm,D SC 2 cc,D SA 2 ca,D SB 2 cb,D SE 2 ce,D PA 0 cp,H I 200,J s1,D A1 n1 c1,D D1 m1 d1,J s2,D A2 n2 c2,D D2 m2 d2,D CW 1 cw,D (U ⟨bd,0,none⟩) 2 bt,D bk bw bq,D bl bx bs,D bj bv bo,D (U ⟨bh,0,none⟩) 2 2,D dc 1 cs,D db 0 dj,az (U ⟨bb,0,none⟩)]:=cF;clear cF;have m:=j.c2;have a1:=j.free;have p:=d.c4;have aP:=d.free;have cO:=l.k 23;have cP:=l.k 24;have dF:=cA cO;have dH:=cA cP;have bz:=ez m;have bA:=j.fa;have bB:=ez p;have bD:=d.fa;go_wp2_with fail;clear dF dH bz bA bB bD;generalize u:ah ci _=dd at*;obtain⟨r,a7⟩:=aC u;clear u;have ex:=l.lt;have eA:=j.lt;have eF:=d.lt;clear p cO cP;revert a9 j d a l m;refine bO r ?_;intro a9 j d a l m
  replace a1:=j.free;have p:=d.c4;replace aP:=d.free;clear r;have cl:=a7.c4;generalize u:ag (ag dd _ _) _ _=de at*;have k:=dp j u;clear u;replace a9:=dN a9 k (by decide);replace l:=l.bs k;replace d:=d.bs k;replace a7:=a7.bs k;replace j:=k.new;replace a:=a.bs k;clear k;clear m p;have m:=j.c2;have p:=d.c4;replace aP:=d.free;replace cl:=a7.c4;generalize u:ag (ag (ag (ag de _ _) _ _) _ _) _ _=dW at*;have k:=bp d u;clear u;replace a9:=dN a9 k (by decide);replace l:=l.bs k;replace j:=j.bs k;replace a7:=a7.bs k;replace d:=k.new;replace a:=a.bs k;clear k;clear m p;have m:=j.c2;have p:=d.c4;replace cl:=a7.c4;exact a4 (gl rfl rfl rfl qa qc bM bN j rfl d rfl) rfl ⟨_,_,_,_,rfl,a9.weaken a5.out,c0.out,a⟩
end Go.Proofs.YtjopfpegcckllaaGreatDoor
