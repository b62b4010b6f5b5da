/- A part of TopStops's proof: Head. -/
import Derived.Deep.DeepCutAuto
import Derived.ProofKit
import Derived.Test.YtjopfpegcckllaaGreatDoorZqAq
set_option linter.all false
set_option maxRecDepth 100000
set_option maxHeartbeats 12800000
open Go.Proofs.Tryz
open Go renaming Value→W,wpList→bG
open Go.Act renaming put→bg
open Go.AllReadyH renaming cons→av,nil→bm
open Go.IntKind renaming i64→I
open Go.Lib renaming hid→G
open Go.Proofs.Tryz renaming prog→ae
open Go.RowKit renaming Hid→Y
open Go.Value renaming int→H,bool→J,slice→D,agg→af,string→al
open Go.World renaming setCell→ag,alloc→ah
open List renaming getElem?_eq_getElem→aT
open Option renaming some→U
variable {fn:Go.Func}{r:List (List Char)}{c:List Char}{xs:List W}{P:Go.Program}
namespace Go.Proofs.YtjopfpegcckllaaGreatDoor
open Go.RowKit
theorem wi (h:xs.length=38):(xs.drop 0).take 38=xs:=by rw[List.drop_zero];exact List.take_of_length_le (by rw[h];exact Nat.le_refl _)
theorem Gq {z:Td}{w:World}(h:dU w xs z)(dB:nw z):Calls ae 3 #[af xs.toArray] w λe a9=>e= .returned (J true)/\V w a9:=by
 have bY:=G h.len;have bV:=G (wi h.len.1);have bS:=G h;clear h;go_enter func3,ntmps3;go_upto_region 1 with((with_reducible show Oper.wp _ _ _ _ _ _);refine kM (T:=38) (v:=af xs.toArray) (.tmp 0) (by rfl) (cs:=xs) (by rfl) (by rfl) ?_;intro fE bn a)
 go_wp2_with(with_reducible show bG _ _ _ _ _ _;refine ex (o:=⟨_,Op.load 38 _,_,_,_,_⟩) _ rfl (by kernel_rfl) rfl vj vk bn bV.out bY.out.1 ?_);refine(dU.GR (bS.out.up a)).mono ?_;rintro e fy ⟨cM,rfl,db,m⟩;replace bn:=bn.up m;replace a:=a.trans m;clear m;cases cM;rotate_left
 .go_wp2_with fail;refine(jB _).mono ?_;rintro e a5 ⟨rfl,m⟩;replace a:=a.trans m;clear m;go_wp2;go_ret;exact⟨rfl,a⟩
 have aq:=G (Td.fact (db.out rfl) dB);clear db dB;go_wp2_with(with_reducible show bG _ _ _ _ _ _;refine ex (o:=⟨_,Op.load 38 _,_,_,_,_⟩) _ rfl (by kernel_rfl) rfl vj vk bn bV.out bY.out.1 ?_);refine(Ew (bS.out.up a) aq.out.s).mono ?_;rintro e a5 ⟨cN,rfl,Q,m⟩;have bh:=G Q.len;have bW:=G (wi Q.len.1);have a4:=G (a.trans m);clear bS bY bV bn m a;have c9:Y ((ae.info? 57).map (·.size)=U cN.length):=G (by rw[bh.out.1];kernel_rfl);have da:Y (([D none 0 0,D none 0 0,H I 0,H I 0,al ⟨#[]⟩,D none 0 0,D none 0 0,D none 0 0,D none 0 0,D none 0 0,H I 0,J false,D none 0 0,D none 0 0,J false,D none 0 0,D none 0 0,J false,D none 0 0,D none 0 0,J false,D none 0 0,D none 0 0,J false,D none 0 0,D none 0 0,H I 0,H I 0,J false,D none 0 0,D none 0 0,J false,D none 0 0,D none 0 0,J false,D none 0 0,D none 0 0,D none 0 0]:List W).length=cN.length):=G (by rw[bh.out.1];rfl);go_upto_region 4 with((with_reducible show Oper.wp _ _ _ _ _ _);refine nu (T:=57) (S:=57) (g:=a5.heap.size) (old:=[D none 0 0,D none 0 0,H I 0,H I 0,al ⟨#[]⟩,D none 0 0,D none 0 0,D none 0 0,D none 0 0,D none 0 0,H I 0,J false,D none 0 0,D none 0 0,J false,D none 0 0,D none 0 0,J false,D none 0 0,D none 0 0,J false,D none 0 0,D none 0 0,J false,D none 0 0,D none 0 0,H I 0,H I 0,J false,D none 0 0,D none 0 0,J false,D none 0 0,D none 0 0,J false,D none 0 0,D none 0 0,D none 0 0]) (cs:=cN) (.tmp 3) (.tmp 16) (by rfl) (by rfl) (by rfl) (Bx.new _ _ _) c9.out da.out bh.out.2 (by rfl) ?_;intro ee j)
 have b:=j.new;have m:V a5 ee:=j.jk ((V.refl a5).alloc _) (Nat.le_refl _);replace Q:=Q.up m;have a:=a4.out.trans m;clear j m a4 c9 da;go_wp2_with(with_reducible show bG _ _ _ _ _ _;refine ex (o:=⟨_,Op.load 57 _,_,_,_,_⟩) _ rfl (by kernel_rfl) rfl hP hQ b bW.out bh.out.1 ?_);refine(dU.part Q aq.out).mono ?_;rintro e aJ ⟨m,bE,x⟩;revert b Q a;revert m;refine bX ?_;intro b Q a;obtain⟨ok,bv⟩:∃cM,Y (z.ok=cM):=⟨_,G rfl⟩;rw[bv.out]at bE x;cases ok
 .obtain rfl:=bE rfl;clear bE x;go_wp2_with(with_reducible show bG _ _ _ _ _ _;refine ex (o:=⟨_,Op.load 57 _,_,_,_,_⟩) _ rfl (by kernel_rfl) rfl hP hQ (by first|exact b|exact b.up (((V.refl _).alloc _).alloc _)) bW.out bh.out.1 ?_);generalize n:ah (ah aJ _) _=fz at*;obtain⟨u,c,l⟩:=br n;clear n;have e9:=b.lt;have e8:=b.lt;refine nM u Q b a ?_;clear Q b a u;intro Q b a
  obtain⟨an,p,q,s,t⟩:=c.c5;obtain⟨ar,ay,aA,aB⟩:=l.c4;refine(dU.right Q aq.out).mono ?_;rintro e d9 ⟨rfl,m⟩;rw[bv.out];revert c l Q b a an p q s t ar ay;refine au m ?_;intro c l Q b a an p q s t ar ay;revert aA aB;revert m;refine gw ?_;intro aA aB
  go_wp2_with fail;refine(jB _).mono ?_;rintro e bl ⟨rfl,m⟩;replace a:=a.trans m;clear m;go_wp2;go_ret;exact⟨rfl,a⟩
 .obtain⟨bk,f,a1,rfl,dA,aN,cG,cH⟩:=x rfl;clear bE x;unfold cJ;have aI:=dA.p;obtain⟨d8,bO,bP,cf,cL,ef,cK,cg,cI,cv,cy,rfl,⟨gT,aM⟩,x,P⟩:=dA;have c7:=G aN;have bu:=G (And.intro cG cH);have aU:=G (Td.GU bv.out)
  have ba:Y (∃aP,Z.Inv z.k aP f):=G (by
   obtain⟨aP,ai,_⟩:=aN;exact⟨aP,Z.kN aU.out.2.1 aP ai⟩)
  have dc:Y ((f.tries.length:Int)<=z.mo):=G (by
   obtain⟨aP,ai⟩:=ba.out;have cE:=ai.len;have bD:=aU.out.2.1.mo;have e:z.k.r.mo=z.mo:=rfl;rw[e]at bD;rcases ai.np with c|c
   .rw[e]at c;rw[cE];exact c
   .rw[cE,c];simp;omega)
  have dd:Y (Z.hO f.tries f.t f.y):=G (by
   obtain⟨aP,ai⟩:=ba.out;exact Z.uK aU.out.2.1 ai)
  have c8:Y (∀r∈f.tries,E.Lq r.err 130):=G (by
   obtain⟨aP,ai,_⟩:=aN;exact vl (k:=z.k) (Ga.mI z.bits).2 aP ai)
  have df:Y (f.tries.length=0->f.want=z.rF.val):=G (by
   obtain⟨aP,ai⟩:=ba.out;exact ai.first)
  have dg:Y (∀(ao:Nat) (r:Z.Tr),f.tries.length=ao+1->f.tries[ao]? =U r->r.h*Pc.et z.r1.val z.r2.val z.r3.val z.r4.val z.fi r.err=f.want):=G (by
   obtain⟨aP,ai⟩:=ba.out;intro ao r cE bD;have c:=ai.last (by omega);rw[c];have eP:ao<f.tries.length:=by omega
   rw[aT eP]at bD;cases bD;have e:f.tries.length-1=ao:=by omega
   simp only[e];rfl)
  have d0:Y ((f.y.length:Int)=z.q.ar):=G (by
   obtain⟨aP,ai⟩:=ba.out;rw[ai.yl];exact aU.out.2.2.2.2)
  have gn:=dc.out;have gl:=aq.out.i.mo.2;clear aN cG cH ba dc;have dR:=G Q;obtain⟨b7,b8,b4,b1,b2,b6,b0,cO,cP,cQ,cS,cU,cW,cX,cY,cZ,c0,cV,c6,bM,bQ,bN,bR,dk,ch,ci,cm,cl,cb,cn,cu,c1,c2,c3,c4,c5,dq,dt,du,dv,dw,dn,dp,cj,cw,ck,cx,dm,rfl,dC,dG,dI,eU⟩:=Q;have dW:=G dC;have bb:=G dG;have bw:=G dI;clear dC dG dI eU bW bh;have a4:=G a;replace a:=V.refl aJ;have gj:=b.lt;have de:=G (And.intro x P);go_wp2_with(with_reducible show bG _ _ _ _ _ _;refine ex (o:=⟨_,Op.load 57 _,_,_,_,_⟩) _ rfl (by kernel_rfl) rfl hP hQ (by first|exact b|exact b.up (((V.refl _).alloc _).alloc _)) rfl rfl ?_);generalize n:ah (ah aJ _) _=fA at*;obtain⟨u,c,l⟩:=br n;clear n;have e9:=b.lt;have e8:=b.lt;refine gZ u aI aM x P b a ?_;clear aI aM x P b a u;intro aI aM x P b a
  obtain⟨an,p,q,s,t⟩:=c.c5;obtain⟨ar,ay,aA,aB⟩:=l.c4;refine(dU.right (dR.out.up a) aq.out).mono ?_;rintro e d9 ⟨rfl,m⟩;rw[bv.out];revert c l aI aM x P b a an p q s;refine au m ?_;intro c l aI aM x P b a an p q s;revert t ar ay aA aB;revert m;refine dH ?_;intro t ar ay aA aB
  go_wp2_with fail;refine(t9 aI dd (by omega) (by omega)).mono ?_;rintro e bl ⟨rfl,m⟩;revert c l aI aM x P b a an p q s;refine au m ?_;intro c l aI aM x P b a an p q s;revert t ar ay aA aB;revert m;refine dH ?_;intro t ar ay aA aB
  have k1:¬(z.mo<(f.tries.length:Int)):=by omega
  have bL:=b.k 27;have dN:=b.k 34;have dO:=b.k 35;have dP:=b.k 36;have e4:=cA bL;have e5:=cA dN;have e6:=cA dO;have e7:=cA dP;have cF:=cA an;have eK:=cA p;have eL:=cA q;have eM:=cA s;have eN:=cA t;have ep:=cA ar;have er:=cA ay;have es:=cA aA;have et:=cA aB;go_upto_region 11 with fail
  clear e4 e5 e6 e7 cF eK eL eM eN ep er es et;generalize n:ah bl _=cd at*;obtain⟨u,d⟩:=aC n;clear n;have gM:=b.lt;have eO:=c.lt;have f2:=l.lt;clear bL dN dO dP;revert c l aI aM x P b a an p q s;refine au u ?_;intro c l aI aM x P b a an p q s;revert t ar ay aA aB;revert u;refine dH ?_;intro t ar ay aA aB
  obtain⟨A,B,C⟩:=d.c3;have bx:=G (And.intro x (And.intro P aM.sn));have gh:=eO;have fp:=G a;clear aI P x k1 an p q s t ar ay aA aB A B C
  go_upto_if 51 with fail
  go_cut [7] (λe3 aQ=> ∃(sw:Bool) (bs bt:Option Addr) (bI bz bH bA:Nat),e3= .pointer (U ⟨bl.heap.size,0,none⟩)/\Bx 53 aQ bl.heap.size [J sw,D bs bI bz,D bt bH bA]/\Fr aQ (af #[J sw,D bs bI bz,D bt bH bA]) f.want 66000/\Bx 61 aQ aJ.heap.size [D d8 f.tries.length ef,J cL,D bO cK cg,D bP cI cv,D cf f.y.length cy]/\Bx 63 aQ (aJ.heap.size+1) [H I a1.1,H I a1.2.1,H I a1.2.2.1,H I a1.2.2.2]/\Bx 57 aQ a5.heap.size [D b7 z.code.length ch,D b8 z.os.length ci,H I z.ar,H I z.par,al z.nm,D b4 z.c.length cm,D b1 z.a.length cl,D b2 z.b.length cb,D b6 z.e.length cn,D b0 z.p.length cu,H I z.bits,J z.r1.1,D cO z.r1.2.1.length c1,D cW z.r1.2.2.length dq,J z.r2.1,D cP z.r2.2.1.length c2,D cX z.r2.2.2.length dt,J z.r3.1,D cQ z.r3.2.1.length c3,D cY z.r3.2.2.length du,J z.r4.1,D cS z.r4.2.1.length c4,D cZ z.r4.2.2.length dv,J z.r5.1,D cU z.r5.2.1.length c5,D c0 z.r5.2.2.length dw,H I z.fi,H I z.mo,J z.rS.1,D cV z.rS.2.1.length dn,D c6 z.rS.2.2.length dp,J z.rE.1,D bM z.rE.2.1.length cj,D bQ z.rE.2.2.length cw,J z.rF.1,D bN z.rF.2.1.length ck,D bR z.rF.2.2.length cx,D dk z.y.length dm]/\Qk 100000 aQ (af #[J cL,D bO cK cg,D bP cI cv]) f.t/\aF 130 aQ (D cf f.y.length cy) f.y/\V aJ aQ)
  case first=>
   by_cases bF:f.tries.length=0
   .have dK:¬((0:Int)<(f.tries.length:Int)):=by omega
    replace bF:=G bF;have dQ:Y (Fr cd (af #[J z.rF.1,D bN z.rF.2.1.length ck,D bR z.rF.2.2.length cx]) z.rF.val 66000):=G (((bw.out.2.2.up a).fr (aq.out.r z.rF (by simp))).mono (by omega));go_wp2
    go_meet
    exact⟨_,_,_,_,_,_,_,rfl,d,by rw[df.out bF.out];exact dQ.out,c,l,b,bx.out.1,bx.out.2.1,a⟩
   .obtain⟨ao,aH⟩:∃ao,f.tries.length=ao+1:=⟨f.tries.length-1,by omega⟩;obtain⟨fV,gH,bk,eg,hb,dD,X⟩:=bx.out.2.2.at_ (ev 100000 130) (by omega) (show ao<f.tries.length by omega)
    subst eg;obtain⟨r,bT⟩:∃r,Y (f.tries[ao]? =U r/\r∈f.tries):=⟨f.tries[ao],G ⟨aT _,List.getElem_mem _⟩⟩
    have eT:eh 100000 130 cd bk r:=by
     have bo:=bT.out.1;rw[aT (show ao<f.tries.length by omega)]at bo;cases bo;exact dD
    clear dD;obtain⟨q1,gI,gJ,gK,fL,fM,fN,fO,fF,fG,fH,fI,fP,gp,gq,gr,gs,gu,gv,gx,gy,gP,gQ,gR,gS,w1,w2,w3,w4,gA,rfl,eZ,e0,p3,a2,e1⟩:=eT;have dZ:=G (dg.out ao r aH bT.out.1);have dT:Y (E.Lq r.err 130):=G (c8.out r bT.out.2);have dy:=X 0 _ rfl;rw[Nat.add_zero]at dy;have ew:=X 1 _ rfl;have eC:=X 2 _ rfl;have g3:=X 3 _ rfl;have eD:=X 4 _ rfl;have eE:=X 5 _ rfl;have eF:=X 6 _ rfl;have eG:=X 7 _ rfl;have eH:=X 8 _ rfl;have ey:=X 9 _ rfl;have bi:=X 10 _ rfl;have ez:=X 11 _ rfl;have eA:=X 12 _ rfl;have eB:=X 13 _ rfl;have dK:(0:Int)<(f.tries.length:Int):=by omega
    have eV:(0:Int)<=(f.tries.length:Int)-1:=by omega
    have eW:(f.tries.length:Int)-1<(f.tries.length:Int):=by omega
    have eX:((f.tries.length:Int)-1).toNat=ao:=by omega
    have dL:IntKind.i64.wrap ((f.tries.length:Int)-1)=(f.tries.length:Int)-1:=IntWalk.i64_in _ (by omega);replace aH:=G aH;clear X eZ e0 e1 bF;have dz:=d.free;have an:=c.k 0;have cF:=cA an;go_upto_region 13 with fail
    clear cF;generalize n:ah cd _=fB at*;obtain⟨u,aR⟩:=aC n;clear n;have gO:=b.lt;have gd:=c.lt;have f4:=l.lt;have f9:=d.lt;clear an;refine gz u p3 a2 b c l d a ?_;clear p3 a2 b c l d a;intro p3 a2 b c l d a
    replace dz:=d.free;clear u;clear dy ew eC g3 eD eE eF eG eH ey bi ez eA eB dK eV eW eX dL;have fc:=aR.k 6;have fd:=aR.k 7;have fe:=aR.k 8;have ff:=aR.k 9;have fa:=aR.k 10;have fb:=aR.k 11;go_wp2_with(with_reducible show bG _ _ _ _ _ _;refine ex (o:=⟨_,Op.load 55 _,_,_,_,_⟩) _ rfl (by kernel_rfl) rfl hh hi b rfl rfl ?_)
    with_reducible refine(EM aq.out ⟨bb.out.1.up a,bb.out.2.1.up a,bb.out.2.2.1.up a,bb.out.2.2.2.1.up a,bb.out.2.2.2.2.up a⟩ p3.fr (by omega) (Qw.fr a2.qw dT.out) (by omega) aU.out.2.2.2.1.1 aU.out.2.2.2.1.2).mono ?_
    rintro e ea ⟨fw,rfl,a7,u52⟩;clear fc fd fe ff fa fb;revert aR p3 a2 b c l d a;refine b9 u52 ?_;intro aR p3 a2 b c l d a
    replace dz:=d.free;clear u52;rw[dZ.out]at a7;obtain⟨fK,fU,rfl,a7,bK⟩:=a7;obtain⟨fj,gF,fZ,rfl⟩:=a7.shape;obtain⟨fk,gG,f0,rfl⟩:=bK.shape;have A:=d.k 0;have B:=d.k 1;have C:=d.k 2;go_wp2_with fail;generalize n:ag (ag (ag ea _ _) _ _) _ _=fC at*;have j:=dh d n;clear n;revert p3 a2 a7 bK;refine bf j.kw ?_;intro p3 a2 a7 bK
    replace b:=b.bs j;replace c:=c.bs j;replace l:=l.bs j;replace aR:=aR.bs j;replace d:=j.new;replace a:=a.bs j;clear j;clear A B C
    go_meet
    exact⟨_,_,_,_,_,_,_,rfl,d,(eb a7 bK).fr bu.out.2,c,l,b,de.out.1.up a,de.out.2.up a,a⟩
  case rest=>
   obtain⟨sw,bs,bt,bI,bz,bH,bA,rfl,d,aL,c,l,b,x,P,a⟩:=hcut;clear aM bx c8 df dg dd;have K:=b.k 31;have L:=b.k 32;have M:=b.k 33;have p:=c.k 1;have q:=c.k 2;have s:=c.k 3;go_wp2_with fail
   with_reducible refine(ic x.fr ((bw.out.2.1.up a).fr (aq.out.r z.rE (by simp))) (by omega) (by omega)).mono ?_
   rintro e aY ⟨rfl,u61⟩;clear K L M p q s;revert d aL c l b x P a;revert u61;refine el ?_;intro d aL c l b x P a
   by_cases aN:f.t=z.rE.val
   .rw[decide_eq_true aN];have aO:=ER c7.out aN;have eo:Bx 63 aY (aJ.heap.size+1) [H I 0,H I 0,H I 0,H I 0]:=by rw[aO]at l;exact l
    clear l aN aO;have f1:=eo.c4;go_wp2_with fail;refine(jB _).mono ?_;rintro e fD ⟨rfl,m⟩;replace a:=(a4.out.trans a).trans m;clear m;go_wp2;go_ret;exact⟨rfl,a⟩
   .rw[decide_eq_false aN];have bd:=G (ES c7.out aN);have eR:(a1.1==0)=false:=by rw[bd.out.1];exact EQ bd.out.2
    have ar:=l.k 0;have ay:=l.k 1;have aA:=l.k 2;have aB:=l.k 3;go_upto_region 17 with fail
    clear ar ay aA aB eR;obtain⟨sz,bU⟩:∃bk,Y (Pc.cut f.t z.rE.val f.want=bk):=⟨_,G rfl⟩;obtain⟨aS,bZ⟩:∃bk,Y (Z.step z.q.pr f.t sz f.y=bk):=⟨_,G rfl⟩;have dV:Y (Z.made z.k f=aS):=G (by rw[<-bZ.out,<-bU.out];rfl);have d7:Y (E.Lq sz 66003):=G (by rw[<-bU.out];exact uD bu.out.1 (bw.out.2.1.fr (aq.out.r z.rE (by simp))).lq bu.out.2);have ca:=G a;clear a aN;have a:=V.refl aY
    go_cut [11] (λe2 aQ=> ∃bi:Nat,e2= .pointer (U ⟨bi,0,none⟩)/\aY.heap.size<=bi/\Bx 63 aQ bi [H I aS.1.1,H I aS.1.2.1,H I aS.1.2.2.1,H I aS.1.2.2.2]/\V aY aQ)
    case first=>
     have K:=b.k 31;have L:=b.k 32;have M:=b.k 33;have p:=c.k 1;have q:=c.k 2;have s:=c.k 3;have t:=c.k 4;have A:=d.k 0;have B:=d.k 1;have C:=d.k 2;revert d c b a K L M p q s t A;refine au (V.refl aY).drew ?_;intro d c b a K L M p q s t A;revert B C;refine cR (V.refl aY).drew ?_;intro B C
     refine wp_region_noPanic ?_;refine wp_region_held_drew (S:=λa9=>V aY a9/\Cz a9 (a5.heap.size) 31 [J z.rE.1,D bM z.rE.2.1.length cj,D bQ z.rE.2.2.length cw]/\Cz a9 (aJ.heap.size) 1 [J cL,D bO cK cg,D bP cI cv,D cf f.y.length cy]/\Cz a9 (bl.heap.size) 0 [J sw,D bs bI bz,D bt bH bA]/\Bx 57 a9 (a5.heap.size) [D b7 z.code.length ch,D b8 z.os.length ci,H I z.ar,H I z.par,al z.nm,D b4 z.c.length cm,D b1 z.a.length cl,D b2 z.b.length cb,D b6 z.e.length cn,D b0 z.p.length cu,H I z.bits,J z.r1.1,D cO z.r1.2.1.length c1,D cW z.r1.2.2.length dq,J z.r2.1,D cP z.r2.2.1.length c2,D cX z.r2.2.2.length dt,J z.r3.1,D cQ z.r3.2.1.length c3,D cY z.r3.2.2.length du,J z.r4.1,D cS z.r4.2.1.length c4,D cZ z.r4.2.2.length dv,J z.r5.1,D cU z.r5.2.1.length c5,D c0 z.r5.2.2.length dw,H I z.fi,H I z.mo,J z.rS.1,D cV z.rS.2.1.length dn,D c6 z.rS.2.2.length dp,J z.rE.1,D bM z.rE.2.1.length cj,D bQ z.rE.2.2.length cw,J z.rF.1,D bN z.rF.2.1.length ck,D bR z.rF.2.2.length cx,D dk z.y.length dm]) (by kernel_rfl) (by exact⟨a,b.cy 31 3,c.cy 1 4,d.cz,b⟩) (λaD=> ?_);generalize aY.drew=aG at*;refine aa 0 ?_;refine aa (v:=af #[D b7 z.code.length ch,D b8 z.os.length ci,H I z.ar,H I z.par,al z.nm,D b4 z.c.length cm,D b1 z.a.length cl,D b2 z.b.length cb,D b6 z.e.length cn,D b0 z.p.length cu,H I z.bits]) 1 ?_ rfl (by rfl) (λw eQ=>fY (off:=0) rfl rfl ip iw eQ.2.2.2.2 rfl rfl);refine aa 2 ?_;refine aa 3 ?_;refine aa 4 ?_;refine aa 5 ?_;refine aa 6 ?_;refine aa 7 ?_;refine aa 8 ?_;refine aa 10 ?_;refine aa 11 ?_
     repeat' first
      |(have N:=ec;clear ec
        (try clear aD)
        go_simp;go_at_call 13
        with_reducible refine(ua (k:=70000) (((Qw.fr x.qw bu.out.1).mono (by omega)).up a) (((bw.out.2.1.up (ca.out.trans a)).fr (aq.out.r z.rE (by simp))).mono (by omega)) ((aL.mono (by omega)).up a) (by omega)).mono ?_
        rintro e aG ⟨fx,rfl,R,aE⟩
        try(replace rd:=rd.up aE)
        try(replace ab:=ab.up aE)
        refine gz aE b c d a K L M ?_;clear b c d a K L M;intro b c d a K L M
        try(replace F:=F.up aE)
        try(replace y:=y.up aE)
        clear p q s t;have p:=c.k 1;have q:=c.k 2;have s:=c.k 3;have t:=c.k 4;clear A B C;have A:=d.k 0;have B:=d.k 1;have C:=d.k 2;clear aE;rw[bU.out]at R;obtain⟨fJ,fT,rfl,R,ab⟩:=R;obtain⟨fg,gD,fW,rfl⟩:=R.shape;obtain⟨fh,gE,fX,rfl⟩:=ab.shape
        try go_wp2_with fail
        refine ax N (by exact⟨a,b.cy 31 3,c.cy 1 4,d.cz,b⟩) (λaD=> ?_);clear N aV)
      |(have N:=dE;clear dE
        (try clear aD)
        go_simp;go_at_call 12
        with_reducible refine((pG (fo.pb aq.out (dW.out.up (ca.out.trans a))) (G aq.out.pb) (G aU.out.1) (x.fr.up a) ((eb R ab).fr d7.out) (P.fs.up a) d0 (by omega) (by omega) (by omega) (by omega)).mono λ_ _ h=>nl.of h).mono ?_
        rintro e aG ⟨fQ,fR,fS,fq,fr,fs,ft,fu,fv,fl,fm,fn,rfl,rd,aE⟩
        try(replace R:=R.up aE)
        try(replace ab:=ab.up aE)
        refine gz aE b c d a K L M ?_;clear b c d a K L M;intro b c d a K L M
        try(replace F:=F.up aE)
        try(replace y:=y.up aE)
        clear p q s t;have p:=c.k 1;have q:=c.k 2;have s:=c.k 3;have t:=c.k 4;clear A B C;have A:=d.k 0;have B:=d.k 1;have C:=d.k 2;clear aE;rw[bZ.out]at rd;rw[bZ.out];unfold cJ
        try go_wp2_with fail
        refine ax N (by exact⟨a,b.cy 31 3,c.cy 1 4,d.cz,b⟩) (λaD=> ?_);clear N aV)
      |(have N:=dF;clear dF
        (try clear aD)
        go_simp;have gN:=b.lt;have gc:=c.lt;have f7:=d.lt;have gB:=a.size
        try(have dx:=y.lt)
        generalize bq:aG.heap.size=ga at*;generalize n:ah aG _=aG at*;obtain⟨u,F⟩:=b3 n bq;clear n bq
        try(replace R:=R.up u)
        try(replace rd:=rd.up u)
        try(replace ab:=ab.up u)
        refine gz u b c d a K L M ?_;clear b c d a K L M;intro b c d a K L M
        try(replace y:=y.up u)
        clear p q s t;have p:=c.k 1;have q:=c.k 2;have s:=c.k 3;have t:=c.k 4;clear A B C;have A:=d.k 0;have B:=d.k 1;have C:=d.k 2;clear u;refine ax N (by exact⟨a,b.cy 31 3,c.cy 1 4,d.cz,b⟩) (λaD=> ?_);clear N aV)
      |(have N:=dJ;clear dJ
        (try clear aD)
        go_simp;have gL:=b.lt;have gb:=c.lt;have f6:=d.lt;have eu:=a.size
        try(have dM:=F.lt)
        generalize bq:aG.heap.size=eI at*;generalize n:ah aG _=aG at*;obtain⟨u,y⟩:=b3 n bq;clear n bq
        try(replace R:=R.up u)
        try(replace rd:=rd.up u)
        try(replace ab:=ab.up u)
        refine gz u b c d a K L M ?_;clear b c d a K L M;intro b c d a K L M
        try(replace F:=F.up u)
        clear p q s t;have p:=c.k 1;have q:=c.k 2;have s:=c.k 3;have t:=c.k 4;clear A B C;have A:=d.k 0;have B:=d.k 1;have C:=d.k 2;clear u;refine ax N (by exact⟨a,b.cy 31 3,c.cy 1 4,d.cz,b⟩) (λaD=> ?_);clear N aV)
      |(have N:=dS;clear dS
        (try clear aD)
        have co:=F.k 0;have cp:=F.k 1;have cr:=F.k 2;have ct:=F.k 3;have cz:=F.free 0;have cB:=F.free 1;have cC:=F.free 2;have cD:=F.free 3;go_simp;clear co cp cr ct cz cB cC cD;generalize n:ag (ag (ag (ag aG _ _) _ _) _ _) _ _=aG at*;have j:=bp F n;clear n
        try(replace R:=R.kw j.kw)
        try(replace rd:=rd.bs j)
        try(replace ab:=ab.kw j.kw)
        replace b:=b.bs j;replace c:=c.bs j;replace d:=d.bs j;replace y:=y.bs j (by first|omega|(have:=dx;omega)|(have:=dM;omega));replace F:=j.new;replace a:=a.bs j;clear j;clear K L M;have K:=b.k 31;have L:=b.k 32;have M:=b.k 33;clear p q s t;have p:=c.k 1;have q:=c.k 2;have s:=c.k 3;have t:=c.k 4;clear A B C;have A:=d.k 0;have B:=d.k 1;have C:=d.k 2;refine ax N (by exact⟨a,b.cy 31 3,c.cy 1 4,d.cz,b⟩) (λaD=> ?_);clear N aV)
      |(have N:=dY;clear dY
        (try clear aD)
        have co:=y.k 0;have cp:=y.k 1;have cr:=y.k 2;have ct:=y.k 3;have cz:=y.free 0;have cB:=y.free 1;have cC:=y.free 2;have cD:=y.free 3;go_simp;clear co cp cr ct cz cB cC cD;generalize n:ag (ag (ag (ag aG _ _) _ _) _ _) _ _=aG at*;have j:=bp y n;clear n
        try(replace R:=R.kw j.kw)
        try(replace rd:=rd.bs j)
        try(replace ab:=ab.kw j.kw)
        replace b:=b.bs j;replace c:=c.bs j;replace d:=d.bs j;replace F:=F.bs j (by first|omega|(have:=dM;omega)|(have:=dx;omega));replace y:=j.new;replace a:=a.bs j;clear j;clear K L M;have K:=b.k 31;have L:=b.k 32;have M:=b.k 33;clear p q s t;have p:=c.k 1;have q:=c.k 2;have s:=c.k 3;have t:=c.k 4;clear A B C;have A:=d.k 0;have B:=d.k 1;have C:=d.k 2;refine ax N (by exact⟨a,b.cy 31 3,c.cy 1 4,d.cz,b⟩) (λaD=> ?_);clear N aV)
      |(with_reducible show AllReadyH _ _ _ _ _ _ _ _ _ _
        first
         |refine av (i:=9) rfl (λaV ec=> ?_) ?_
         |refine av (i:=12) rfl (λaV dE=> ?_) ?_
         |refine av (i:=16) rfl (λaV dF=> ?_) ?_
         |refine av (i:=17) rfl (λaV dJ=> ?_) ?_
         |refine av (i:=18) rfl (λaV dS=> ?_) ?_
         |refine av (i:=19) rfl (λaV dY=> ?_) ?_
         |exact bm)
      |(with_reducible show wpAnyH _ _ _ _ _ _ _ _ _
        first
         |refine ak [9,16,17] ?_
         |refine ak [9,16] ?_
         |refine ak [9,17] ?_
         |refine ak [9] ?_
         |refine ak [12,16,17] ?_
         |refine ak [12,16] ?_
         |refine ak [12,17] ?_
         |refine ak [12] ?_
         |refine ak [16,17] ?_
         |refine ak [16] ?_
         |refine ak [17] ?_
         |refine ak [18] ?_
         |refine ak [19] ?_
         |refine aa 13 ?_
         |refine aa 14 ?_
         |refine aa 15 ?_
         |refine wpAnyH_done (by decide +kernel) (NoPanic.normal ?_) _)
      |fail
     all_goals try clear aD
     all_goals have gC:=F.c4
     all_goals have f5:=y.c4
     all_goals
      have eS:=eu;go_wp2_with fail
      go_meet
      exact⟨eI,rfl,eS,y,a⟩
    case rest=>
     obtain⟨bi,rfl,ge,dr,cc⟩:=hcut;have cG:=b.lt;have cH:=l.lt;have gi:=d.lt;refine jb cc b l d aL ?_;clear b l d aL;intro b l d aL
     replace a:=ca.out.trans cc;clear cc c x P;have gm:z.mo<=200:=aU.out.2.1.mo.2;have dL:IntKind.i64.wrap ((f.tries.length:Int)+1)=(f.tries.length:Int)+1:=IntWalk.i64_in _ (by omega);have ds:=dr.free;have ei:=dr.k 0;have ej:=dr.k 1;have ek:=dr.k 2;have en:=dr.k 3;go_upto_region 19 with fail
     generalize n:ag wc _ _=di at*;have j:=eJ dr n;clear n;replace aL:=aL.kw j.kw;replace b:=b.bs j;replace l:=l.bs j;replace d:=d.bs j;replace dr:=j.new;replace a:=a.bs j;clear j;clear ei ej ek en;have bL:=b.k 27
     by_cases aH:(f.tries.length:Int)=z.mo
     .have eY:((f.tries.length:Int)==z.mo)=true:=by simpa using aH
      have aO:a1=(5,(f.tries.length:Int)+1,0,0):=bd.out.1.trans (vm aH);have aK:Bx 63 di (aJ.heap.size+1) [H I 5,H I ((f.tries.length:Int)+1),H I 0,H I 0]:=by rw[aO]at l;exact l
      clear l aO aH;have bC:=aK.c4;have bB:=dr.c4;have ds:=dr.free;go_upto_region 23 with fail
      generalize n:ag (ag (ag (ag di _ _) _ _) _ _) _ _=ed at*;have j:=bp dr n;clear n;replace aK:=aK.bs j;replace dr:=j.new;replace a:=a.bs j;clear j;replace bC:=aK.c4;replace bB:=dr.c4;go_wp2_with fail;refine(jB _).mono ?_;rintro e dj ⟨rfl,m⟩;replace a:=(a4.out.trans a).trans m;clear m;go_wp2;go_ret;exact⟨rfl,a⟩
     .skip;have eY:((f.tries.length:Int)==z.mo)=false:=by simpa using aH
      replace aH:=G aH;have A:=d.k 0;have B:=d.k 1;have C:=d.k 2;go_wp2_with(with_reducible show bG _ _ _ _ _ _;refine ex (o:=⟨_,Op.load 55 _,_,_,_,_⟩) _ rfl (by kernel_rfl) rfl hh hi b rfl rfl ?_)
      with_reducible refine(EN aq.out (bb.out.2.2.2.2.up a) aL (by omega)).mono ?_
      rintro e ce ⟨rfl,u92⟩;clear bL A B C;revert aL b l d dr a;revert u92;refine dX ?_;intro aL b l d dr a
      by_cases bj:f.want<z.r5.val
      .rw[decide_eq_true bj];have aO:a1=(4,(f.tries.length:Int)+1,0,0):=bd.out.1.trans (vn aH.out bj);have aK:Bx 63 ce (aJ.heap.size+1) [H I 4,H I ((f.tries.length:Int)+1),H I 0,H I 0]:=by rw[aO]at l;exact l
       clear l aO bj;have bC:=aK.c4;have bB:=dr.c4;have ds:=dr.free;go_upto_region 23 with fail
       generalize n:ag (ag (ag (ag ce _ _) _ _) _ _) _ _=ed at*;have j:=bp dr n;clear n;replace aK:=aK.bs j;replace dr:=j.new;replace a:=a.bs j;clear j;replace bC:=aK.c4;replace bB:=dr.c4;go_wp2_with fail;refine(jB _).mono ?_;rintro e dj ⟨rfl,m⟩;replace a:=(a4.out.trans a).trans m;clear m;go_wp2;go_ret;exact⟨rfl,a⟩
      .rw[decide_eq_false bj]
       have aO:a1=(aS.1.1,(f.tries.length:Int)+1,aS.1.2.2):=by
        have bo:=bd.out.1.trans (vq aH.out bj bd.out.2);rw[dV.out]at bo;exact bo
       have aK:Bx 63 ce (aJ.heap.size+1) [H I aS.1.1,H I ((f.tries.length:Int)+1),H I aS.1.2.2.1,H I aS.1.2.2.2]:=by rw[aO]at l;exact l
       clear l aO bj;have bC:=aK.c4;have bB:=dr.c4;go_wp2_with fail;refine(jB _).mono ?_;rintro e dj ⟨rfl,m⟩;replace a:=(a4.out.trans a).trans m;clear m;go_wp2;go_ret;exact⟨rfl,a⟩
end Go.Proofs.YtjopfpegcckllaaGreatDoor
namespace Go.Proofs.YtjopfpegcckllaaGreatDoor.Hd
abbrev ch (n:Nat):Char:=Char.ofNat n
open Go.ChangeShapes Go.WideShapes Go.ChangeAt Go.RowKit
theorem Gr (hb:behindMainWord (wordsSigns P.initOrder.toList)=c::r)(h1:(c== "gc".toList||c== "spec".toList)=false)(h2:(c== "cut".toList)=true):P.make=U Make.cut:=by
 unfold Program.make;rw[hb];simp only[h1,h2,Bool.true_or,if_true,Bool.false_eq_true,if_false]
theorem Gs (hb:behindMainWord (wordsSigns P.initOrder.toList)=c::r)(h1:stripLifts liftWords (c::r)=([],c::r))(h2:(U c==U "cut".toList)=true)
 (a:P.laysLater=false)(b:P.bearsReflect=false)(d:P.doorFits []=true):P.mayEnter=true:=by
 unfold Program.mayEnter;rw[hb];simp only[h1,a,b,d,List.head?_cons,h2,Bool.not_false,Bool.or_true,Bool.and_true,List.contains_nil]
theorem Gt (hb:behindMainWord (wordsSigns P.initOrder.toList)=c::r)(h1:stripLifts liftWords (c::r)=([],c::r))(h2:(U c==U "cut".toList)=true)(a:(U c==U "carried".toList)=false):P.liftsFinal=false:=by
 unfold Program.liftsFinal Program.headLifts;rw[hb];simp only[h1,List.head?_cons,h2,a,if_true,Bool.false_and,Bool.false_or,List.contains_nil]
theorem Gu:ae.initOrder=String.ofList [ch 104,ch 97,ch 114,ch 110,ch 101,ch 115,ch 115,ch 32,ch 49,ch 56,ch 101,ch 52,ch 55,ch 102,ch 53,ch 52,ch 101,ch 57,ch 98,ch 49,ch 49,ch 98,ch 57,ch 52,ch 48,ch 101,ch 51,ch 97,ch 57,ch 53,ch 99,ch 50,ch 53,ch 100,ch 98,ch 51,ch 50,ch 97,ch 99,ch 49,ch 51,ch 52,ch 56,ch 54,ch 57,ch 101,ch 54,ch 49,ch 53,ch 55,ch 99,ch 57,ch 54,ch 53,ch 97,ch 57,ch 57,ch 97,ch 57,ch 56,ch 53,ch 55,ch 56,ch 97,ch 99,ch 48,ch 52,ch 49,ch 98,ch 55,ch 48,ch 49,ch 32,ch 99,ch 117,ch 116,ch 32,ch 97,ch 116,ch 32,ch 114,ch 101,ch 116,ch 114,ch 111,ch 115,ch 112,ch 101,ch 99,ch 116,ch 47,ch 114,ch 101,ch 116,ch 114,ch 111,ch 115,ch 112,ch 101,ch 99,ch 116,ch 116,ch 111,ch 112,ch 46,ch 84,ch 111,ch 112,ch 83,ch 116,ch 111,ch 112,ch 115]:=by kernel_rfl
theorem Gv:wordsSigns [ch 104,ch 97,ch 114,ch 110,ch 101,ch 115,ch 115,ch 32,ch 49,ch 56,ch 101,ch 52,ch 55,ch 102,ch 53,ch 52,ch 101,ch 57,ch 98,ch 49,ch 49,ch 98,ch 57,ch 52,ch 48,ch 101,ch 51,ch 97,ch 57,ch 53,ch 99,ch 50,ch 53,ch 100,ch 98,ch 51,ch 50,ch 97,ch 99,ch 49,ch 51,ch 52,ch 56,ch 54,ch 57,ch 101,ch 54,ch 49,ch 53,ch 55,ch 99,ch 57,ch 54,ch 53,ch 97,ch 57,ch 57,ch 97,ch 57,ch 56,ch 53,ch 55,ch 56,ch 97,ch 99,ch 48,ch 52,ch 49,ch 98,ch 55,ch 48,ch 49,ch 32,ch 99,ch 117,ch 116,ch 32,ch 97,ch 116,ch 32,ch 114,ch 101,ch 116,ch 114,ch 111,ch 115,ch 112,ch 101,ch 99,ch 116,ch 47,ch 114,ch 101,ch 116,ch 114,ch 111,ch 115,ch 112,ch 101,ch 99,ch 116,ch 116,ch 111,ch 112,ch 46,ch 84,ch 111,ch 112,ch 83,ch 116,ch 111,ch 112,ch 115]=[[ch 104,ch 97,ch 114,ch 110,ch 101,ch 115,ch 115],[ch 49,ch 56,ch 101,ch 52,ch 55,ch 102,ch 53,ch 52,ch 101,ch 57,ch 98,ch 49,ch 49,ch 98,ch 57,ch 52,ch 48,ch 101,ch 51,ch 97,ch 57,ch 53,ch 99,ch 50,ch 53,ch 100,ch 98,ch 51,ch 50,ch 97,ch 99,ch 49,ch 51,ch 52,ch 56,ch 54,ch 57,ch 101,ch 54,ch 49,ch 53,ch 55,ch 99,ch 57,ch 54,ch 53,ch 97,ch 57,ch 57,ch 97,ch 57,ch 56,ch 53,ch 55,ch 56,ch 97,ch 99,ch 48,ch 52,ch 49,ch 98,ch 55,ch 48,ch 49],[ch 99,ch 117,ch 116],[ch 97,ch 116],[ch 114,ch 101,ch 116,ch 114,ch 111,ch 115,ch 112,ch 101,ch 99,ch 116,ch 47,ch 114,ch 101,ch 116,ch 114,ch 111,ch 115,ch 112,ch 101,ch 99,ch 116,ch 116,ch 111,ch 112,ch 46,ch 84,ch 111,ch 112,ch 83,ch 116,ch 111,ch 112,ch 115]]:=by kernel_rfl
theorem hw:wordsSigns ae.initOrder.toList=[[ch 104,ch 97,ch 114,ch 110,ch 101,ch 115,ch 115],[ch 49,ch 56,ch 101,ch 52,ch 55,ch 102,ch 53,ch 52,ch 101,ch 57,ch 98,ch 49,ch 49,ch 98,ch 57,ch 52,ch 48,ch 101,ch 51,ch 97,ch 57,ch 53,ch 99,ch 50,ch 53,ch 100,ch 98,ch 51,ch 50,ch 97,ch 99,ch 49,ch 51,ch 52,ch 56,ch 54,ch 57,ch 101,ch 54,ch 49,ch 53,ch 55,ch 99,ch 57,ch 54,ch 53,ch 97,ch 57,ch 57,ch 97,ch 57,ch 56,ch 53,ch 55,ch 56,ch 97,ch 99,ch 48,ch 52,ch 49,ch 98,ch 55,ch 48,ch 49],[ch 99,ch 117,ch 116],[ch 97,ch 116],[ch 114,ch 101,ch 116,ch 114,ch 111,ch 115,ch 112,ch 101,ch 99,ch 116,ch 47,ch 114,ch 101,ch 116,ch 114,ch 111,ch 115,ch 112,ch 101,ch 99,ch 116,ch 116,ch 111,ch 112,ch 46,ch 84,ch 111,ch 112,ch 83,ch 116,ch 111,ch 112,ch 115]]:=by rw[Gu,String.toList_ofList];exact Gv
def rest:List (List Char):=[[ch 97,ch 116],[ch 114,ch 101,ch 116,ch 114,ch 111,ch 115,ch 112,ch 101,ch 99,ch 116,ch 47,ch 114,ch 101,ch 116,ch 114,ch 111,ch 115,ch 112,ch 101,ch 99,ch 116,ch 116,ch 111,ch 112,ch 46,ch 84,ch 111,ch 112,ch 83,ch 116,ch 111,ch 112,ch 115]]
def iD:List Char:=[ch 99,ch 117,ch 116]
theorem hb:behindMainWord (wordsSigns ae.initOrder.toList)=iD::rest:=by rw[hw];kernel_rfl
theorem k1:(iD== "gc".toList||iD== "spec".toList)=false:=by kernel_rfl
theorem k2:(iD== "cut".toList)=true:=by kernel_rfl
theorem k6:stripLifts liftWords (iD::rest)=([],iD::rest):=by kernel_rfl
theorem k7:(U iD==U "cut".toList)=true:=by kernel_rfl
theorem o7:(U iD==U "carried".toList)=false:=by kernel_rfl
theorem Gw:ae.laysLater=false:=by kernel_rfl
theorem Gx:ae.bearsReflect=false:=by kernel_rfl
theorem Gy:ae.doorFits []=true:=by kernel_rfl
theorem qq:ae.make=U Make.cut:=Gr hb k1 k2
theorem qr:ae.mayEnter=true:=Gs hb k6 k7 Gw Gx Gy
theorem qu:ae.liftsFinal=false:=Gt hb k6 k7 o7
theorem own:ownKnob ae.godebug=none:=by kernel_rfl
theorem qv:laidOutB ae=true:=by kernel_rfl
theorem p3:mapsRowed ae=true:=by kernel_rfl
theorem p7:(ae.stops==[])=true:=by kernel_rfl
theorem qx:(ae.stopKnobs==[])=true:=by kernel_rfl
theorem qy:ae.plainKeys=true:=by kernel_rfl
theorem qz:ae.stopsHeard=true:=by kernel_rfl
theorem Gz {f:FuncId}{s:ChangeSpec}{c:OpenClaim}(q:laidOutB P=true)(p3:mapsRowed P=true)(p7:(P.stops==[])=true)(qx:(P.stopKnobs==[])=true)(qz:P.stopsHeard=true)(qr:P.mayEnter=true)(qu:P.liftsFinal=false)(qq:P.make=U Make.cut)(qy:P.plainKeys=true)
 (kZ:c.wf (OpenSpec.ofChange s)=true)(k3:fn.params.all (P.readableRec ·)=true)(k4:namedTie P c.named s.vars=true)(b:(c.stops==[])=true)(d:(c.knobs==[])=true)
 (k5:(c.inPlace==P.inPlace f)=true)(dr:(c.unfollowed==P.unfollowed f)=true)(k8:(c.recurses==P.recurses f)=true)(k9:(c.named==P.varsNamed f)=true)
 (ld:(c.maps==(fn.params.toList++s.plain.varTypes P).any (P.mapsRec ·))=true)(lf:(c.ifaces==(fn.params.toList++s.plain.varTypes P).any (P.ifacesRec ·))=true)(lg:(c.mapsOut==P.mapsAmong fn.resultTypes.toList)=true)
 (lh:(c.loops==(fn.params.toList++s.plain.varTypes P).any (P.loopsFrom ·))=true)(li:(c.wideKeys==(fn.params.toList++s.plain.varTypes P++fn.resultTypes.toList).any (P.wideKeysFrom ·))=true)
 (lj:s.vars.all (P.varReadable ·)=true)(lk:fn.resultTypes.all (λt=>P.readableRec t&&decide (t<P.types.size))=true)(ll:(c.ifacesOut==fn.resultTypes.toList.any (P.ifacesRec ·))=true)(lm:(c.loopsOut==fn.resultTypes.toList.any (P.loopsFrom ·))=true)
 (g:c.shortTexts.isNone=true)(m:c.plainKeys=true)(n:c.lifted=false)(o:c.make=Make.cut)(l:c.domain=[])(a:c.kinds=[])(p:c.pinned=false)
 (lp:(c.veiled==(fn.params.toList++s.plain.varTypes P++fn.resultTypes.toList).any (P.veiledRec ·))=true)(lr:c.veiledFits P fn.params.toList (fn.params.toList++s.plain.varTypes P++fn.resultTypes.toList)=true):joinedFacts P f fn s c=true:=by
 have e:(c.plainKeys==P.plainKeys)=true:=by rw[m,qy];rfl
 have i:(c.lifted==P.liftsFinal)=true:=by rw[n,qu];rfl
 have j:(P.make==U c.make)=true:=by rw[qq,o];rfl
 have k:(c.pinned==c.pinnedBy)=true:=by unfold OpenClaim.pinnedBy;rw[a,p];rfl
 unfold joinedFacts;rw[kZ,q,p3,k3,k4,b,p7,d,qx,k5,dr,k8,k9,ld,lf,lg,lh,li,lj,lk,ll,lm,e,g,qz,qr,i,j,k,lp,lr,l,a];rfl
theorem GC {f:FuncId}{s:ChangeSpec}{c:OpenClaim}
 (kZ:c.wf (OpenSpec.ofChange s)=true)(k3:fn.params.all (ae.readableRec ·)=true)(k4:namedTie ae c.named s.vars=true)(a:(c.stops==[])=true)(b:(c.knobs==[])=true)
 (k5:(c.inPlace==ae.inPlace f)=true)(dr:(c.unfollowed==ae.unfollowed f)=true)(k8:(c.recurses==ae.recurses f)=true)(k9:(c.named==ae.varsNamed f)=true)
 (ld:(c.maps==(fn.params.toList++s.plain.varTypes ae).any (ae.mapsRec ·))=true)(lf:(c.ifaces==(fn.params.toList++s.plain.varTypes ae).any (ae.ifacesRec ·))=true)(lg:(c.mapsOut==ae.mapsAmong fn.resultTypes.toList)=true)
 (lh:(c.loops==(fn.params.toList++s.plain.varTypes ae).any (ae.loopsFrom ·))=true)(li:(c.wideKeys==(fn.params.toList++s.plain.varTypes ae++fn.resultTypes.toList).any (ae.wideKeysFrom ·))=true)
 (lj:s.vars.all (ae.varReadable ·)=true)(lk:fn.resultTypes.all (λt=>ae.readableRec t&&decide (t<ae.types.size))=true)(ll:(c.ifacesOut==fn.resultTypes.toList.any (ae.ifacesRec ·))=true)(lm:(c.loopsOut==fn.resultTypes.toList.any (ae.loopsFrom ·))=true)
 (d:c.shortTexts.isNone=true)(g:c.plainKeys=true)(i:c.lifted=false)(j:c.make=Make.cut)(e:c.domain=[])(k:c.kinds=[])(l:c.pinned=false)
 (lp:(c.veiled==(fn.params.toList++s.plain.varTypes ae++fn.resultTypes.toList).any (ae.veiledRec ·))=true)(lr:c.veiledFits ae fn.params.toList (fn.params.toList++s.plain.varTypes ae++fn.resultTypes.toList)=true):joinedFacts ae f fn s c=true:=
 Gz qv p3 p7 qx qz qr qu qq qy kZ k3 k4 a b k5 dr k8 k9 ld lf lg lh li lj lk ll lm d g i j e k l lp lr
end Go.Proofs.YtjopfpegcckllaaGreatDoor.Hd
