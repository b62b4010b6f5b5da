/- A part of TopStops's proof: SvPart2 SvPart SvTo39 SvLong2. -/
import Derived.Deep.DeepCutAuto
import Derived.WalkMore
import Derived.Deep.Strs
import Derived.Test.YtjopfpegcckllaaGreatDoorZqAl
import Derived.Test.YtjopfpegcckllaaGreatDoorZqAm
set_option linter.all false
set_option maxRecDepth 100000
set_option maxHeartbeats 12800000
open Go.Proofs.Tryz
open Go renaming Oper→bt,Act→a6,World→O,Value→W,wpAnyH→bJ,AllReadyH→b5,Calls→aj,Addr→am,TypeId→an,Ending→aO,wpList→bG,sizeOf→ci,isAgg→ct,bodyPost_ret→a4,wp_region_noPanic→aZ,wp_region_held_drew→a3,wpAnyH_done→aW
open Go.Act renaming put→bg
open Go.AllReadyH renaming cons→av,nil→bm
open Go.DataW renaming trod→b7
open Go.Ending renaming returned→aw
open Go.IntKind renaming i64→I
open Go.Lib renaming hid→G
open Go.NoPanic renaming normal→aX
open Go.Obj renaming cells→ao
open Go.Proofs.Tryz renaming prog→ae
open Go.RowKit renaming Hid→Y,intOf→aI
open Go.Value renaming tuple→aY,int→H,bool→J,slice→D,agg→af,pointer→az,string→al
open Go.World renaming setCell→ag,alloc→ah
open List renaming getElem?_eq_getElem→aT,take_length→co
open Nat renaming le_refl→a8,le_trans→aQ,zero_le→bn
open Option renaming some→U
variable {cD:Type}{s1 s2 s3 s4 s5 sE sF sS:Bool}{Q:Go.Exit->a6->O->Prop}{ar bits fi mo par:Int}{os:List Int}{l1 l2 l3 l4 l5 m1 m2 m3 m4 m5:List Nat}{y ys:List Rat}{new old xs:List W}{aH c1 c2 c3 c4 c5 cB cE cH cK cS ca cb cc ce cp cu dE dF dS e1 e2 e3 e4 e5 g i k kp mE mF mS n nE nF nK nS no:Nat}{aD ab w0 wb:O}{A1 A2 A3 A4 A5 AE AF AS D1 D2 D3 D4 D5 DE DF DS PA SA SB SC SE TA TB YK:Option am}{cZ e first high low safe start stop t:Rat}{v:W}{a:a6}{K:a6->O->Prop}{T:an}{o:bt}
namespace Go.Proofs.YtjopfpegcckllaaGreatDoor
open Go.RowKit
theorem dM.ap {w:O}{l:List Int}(h:dM w0 w v l)(a:Ap T w ab)(d:3≠T):dM w0 ab v l:=by
 obtain⟨f,ha,h1,h2⟩:=h;refine⟨f,ha.imp λx q b=>b,h1,?_⟩;rcases h2 with h2|⟨g,ys,e,c,b,r⟩
 .exact .inl h2
 .exact .inr ⟨g,ys,e,c,a.bx d b,r⟩
def fG (w0 w:O)(v:W)(l:List ba):Prop:=aP dc 6 114 w0.heap.size w v l
theorem fG.up {w0 w ab:O}{v:W}{l:List ba}(h:fG w0 w v l)(u:V w ab):fG w0 ab v l:=aP.up (cV _) h u
instance fG.bW {w0 w ab:O} {v:W} {l:List ba}:Lu (V w ab) (fG w0 w v l) (fG w0 ab v l):=bu λu h=>h.up u
theorem fG.bs {w:O}{l:List ba}(h:fG w0 w v l)(b:Bs T g w ab old new)(i:114≠T:=by decide):fG w0 ab v l:=by
 have f:=kE h b.old i;obtain⟨k,ha,j⟩:=h;exact⟨k,ha.imp λx q ⟨u,d,e,h2,a,c⟩=>⟨u,d,e,h2.kw b.kw,a.kw b.kw,c⟩,j.kept b.gr f⟩
theorem fG.form {w0 w:O}{v:W}{l:List ba}(h:fG w0 w v l):∃a c,v=D a l.length c:=aP.form h
structure fH (w0 w:O) (vc vo:W) (code:List ba) (os:List Int):Prop where
 c:fG w0 w vc code
 o:dM w0 w vo os
theorem fH.up {w0 w ab:O}{vc vo:W}{code:List ba}{os:List Int}(h:fH w0 w vc vo code os)(u:V w ab):fH w0 ab vc vo code os:=⟨h.c.up u,h.o.up u⟩
instance fH.bW {w0 w ab:O} {vc vo:W} {code:List ba} {os:List Int}:Lu (V w ab) (fH w0 w vc vo code os) (fH w0 ab vc vo code os):=bu λu h=>h.up u
theorem fH.bs {T:an}{g:Nat}{w0 w ab:O}{vc vo:W}{code:List ba}{os:List Int}{old new:List W}(h:fH w0 w vc vo code os)(b:Bs T g w ab old new)(a:114≠T/\3≠T:=by decide):fH w0 ab vc vo code os:=⟨h.c.bs b a.1,h.o.bs b a.2⟩
theorem fH.weaken {wb w0 w:O}{vc vo:W}{code:List ba}{os:List Int}(h:fH w0 w vc vo code os)(u:wb.heap.size<=w0.heap.size):fH wb w vc vo code os:=⟨aP.weaken h.c u,aP.weaken h.o u⟩
theorem DO:d8 114 (af #[H I 0,H I 0,H I 0,J false,D none 0 0,D none 0 0]) 6 80:=by unfold d8;kernel_rfl
theorem DP:cQ 6 (af #[H I 0,H I 0,H I 0,J false,D none 0 0,D none 0 0]).cells.toList:=⟨rfl,λb a=>by
 simp only[Value.cells,List.mem_cons,List.not_mem_nil,or_false]at a;rcases a with rfl|rfl|rfl|rfl|rfl|rfl<;>exact⟨trivial,rfl⟩⟩
theorem DQ (w:O):(ct 43).run ae w= .ok true w:=by kernel_rfl
theorem DR (w:O):(ci 43).run ae w= .ok 4 w:=by kernel_rfl
theorem nn {s:Bool}{A ai:Option am}{c m d:Nat}{w:O}:aj ae 26 #[af #[J s,D A n c,D ai m d]] w λe a=>e=aw (af #[J s,D A n c,D ai m d])/\V w a:=iY s A ai n c m d w
def uE (code:List ba)(os:List Int)(g i:Int)(j w:O)(e:aO)(f:O):Prop:= ∃(a b:Option am) (c d:Nat),e=aw (af #[D a code.length c,D b os.length d,H I g,H I i])/\fH j f (D a code.length c) (D b os.length d) code os/\V w f
theorem DT {code:List ba}{w:O}(h:Sn dc w (D TA code.length aH) code)(a7:c0 w (D TB os.length cB) os)(aJ:code.length<=1000)(a5:os.length<=1000):
 aj ae 56 #[af #[D TA code.length aH,D TB os.length cB,H I ar,H I par]] w (uE code os ar par w w):=by
 have bk:=G h;have bo:=G a7;have aR:=G aJ;have bl:=G a5;clear h a7 aJ a5;go_enter func56,ntmps56;go_upto_region 1 with fail
 generalize l:ah (ah w _) _=z at*;obtain⟨c,d,f⟩:=br l;clear l;have m:=d.c4;have y:=f.c4;have g:dM w z (D none 0 0) []:=aP.nil _ _ _ _ _;have ci:=f.lt;have aA:=c;have cj:=c.size;clear c;have c:=V.refl z
 go_cut [3] (λbS ai=> ∃(g3:Nat) (Z:Option am) (ab:Nat),bS=az (U ⟨g3,0,none⟩)/\z.heap.size<=g3/\Bx 43 ai g3 [D none 0 0,D Z os.length ab,H I ar,H I par]/\dM w ai (D Z os.length ab) os/\Bx 25 ai w.heap.size [D TA code.length aH,D TB os.length cB,H I ar,H I par]/\Bx 43 ai (w.heap.size+1) [D none 0 0,D none 0 0,H I 0,H I 0]/\V z ai)
 case first=>
  have m:=d.c4;have y:=f.c4;revert d f g c m y;refine bO (V.refl z).drew ?_;intro d f g c m y
  refine aZ ?_;refine a3 (S:=λX=>V z X/\Cz X (w.heap.size) 0 [D TA code.length aH,D TB os.length cB,H I ar,H I par]) (by kernel_rfl) (by exact⟨c,d.cz⟩) (λn=> ?_);generalize z.drew=p at*;refine aa 0 ?_;refine aa 1 ?_;refine aa 2 ?_;refine aa 3 ?_;refine aa 5 ?_;refine aa 6 ?_
  repeat' first
   |(have k:=bK;clear bK
     (try clear n)
     go_simp;have b7:=d.lt;have cr:=f.lt;have cz:=c.size
     try(have bW:=e.lt)
     generalize Q:p.heap.size=cd at*;generalize l:ah p _=p at*;obtain⟨x,M⟩:=b3 l Q;clear l Q;revert d f g c m y;refine bO x ?_;intro d f g c m y
     try(replace e:=e.up x)
     clear x;refine ax k (by exact⟨c,d.cz⟩) (λn=> ?_);clear k A)
   |(have k:=bP;clear bP
     (try clear n)
     refine fm (by rfl) ?_;refine C0 (w0:=w) (.tmp 10) (.tmp 12) (by rfl) (by rfl) (by rfl) M (by omega) (bo.out.up (aA.trans c)) bl.out ?_;clear g;intro bY b9 au g u7;refine jb u7 M d f c ?_;clear M d f c;intro M d f c
     try(replace e:=e.up u7)
     clear u7;obtain⟨p,aG⟩:∃z,z=au:=⟨_,rfl⟩;subst aG;replace m:=d.c4;replace y:=f.c4;refine ax k (by exact⟨c,d.cz⟩) (λn=> ?_);clear k A)
   |(have k:=bT;clear bT
     (try clear n)
     go_simp;have b4:=d.lt;have cp:=f.lt;have bU:=c.size
     try(have bX:=M.lt)
     generalize Q:p.heap.size=bI at*;generalize l:ah p _=p at*;obtain⟨x,e⟩:=b3 l Q;clear l Q;refine gZ x d f g c m y ?_;clear d f g c m y;intro d f g c m y
     try(replace M:=M.up x)
     clear x;refine ax k (by exact⟨c,d.cz⟩) (λn=> ?_);clear k A)
   |(have k:=aD;clear aD
     (try clear n)
     have aE:=e.k 0;have bt:=e.k 1;have bu:=e.k 2;have bv:=e.k 3;have aF:=e.free 0;have bx:=e.free 1;have bz:=e.free 2;have bA:=e.free 3;go_simp;clear aE bt bu bv aF bx bz bA;generalize l:ag (ag (ag (ag p _ _) _ _) _ _) _ _=p at*;have j:=bp e l;clear l;replace g:=g.bs j;replace d:=d.bs j;replace f:=f.bs j
     try(replace M:=M.bs j (by first|omega|(have:=bX;omega)|(have:=bW;omega)))
     replace e:=j.new;replace c:=c.bs j;clear j;replace m:=d.c4;replace y:=f.c4;refine ax k (by exact⟨c,d.cz⟩) (λn=> ?_);clear k A)
   |(with_reducible show b5 _ _ _ _ _ _ _ _ _ _
     first
      |refine av (i:=4) rfl (λA bK=> ?_) ?_
      |refine av (i:=7) rfl (λA bP=> ?_) ?_
      |refine av (i:=9) rfl (λA bT=> ?_) ?_
      |refine av (i:=10) rfl (λA aD=> ?_) ?_
      |exact bm)
   |(with_reducible show bJ _ _ _ _ _ _ _ _ _
     first
      |refine ak [4,9] ?_
      |refine ak [4] ?_
      |refine ak [7,9] ?_
      |refine ak [7] ?_
      |refine ak [9] ?_
      |refine ak [10] ?_
      |refine ak [7] ?_
      |refine aa 8 ?_
      |refine aW (by decide +kernel) (aX ?_) _)
   |fail
  all_goals try clear n
  all_goals try(obtain⟨u,aL,aM,aN⟩:=e.c4)
  all_goals
   have ch:=bU;go_wp2_with fail
   go_meet
   exact⟨bI,_,_,rfl,by omega,e,g,d,f,c⟩
 case rest=>
  obtain⟨g3,Z,ab,rfl,bM,e,g,d,f,aU⟩:=hcut;have c:=aA.trans aU;clear aU aA;have ce:=bM;go_wp2_with fail
  go_loopw[4] (λaK wr=> ∃(o:Nat) (an:Option am) (aw:Nat),aK=H I (o:Int)/\o<=code.length/\Bx 43 wr g3 [D an o aw,D Z os.length ab,H I ar,H I par]/\fG w wr (D an o aw) (code.take o)/\dM w wr (D Z os.length ab) os/\Bx 25 wr w.heap.size [D TA code.length aH,D TB os.length cB,H I ar,H I par]/\Bx 43 wr (w.heap.size+1) [D none 0 0,D none 0 0,H I 0,H I 0]/\V w wr) (λaK _=>code.length-(aI aK).toNat)
  case atStart=>exact⟨0,none,0,rfl,bn _,e,aP.nil _ _ _ _ _,g,d,f,c⟩
  case round=>
   obtain⟨o,an,aw,rfl,cg,e,q,g,d,f,c⟩:=hrel
   by_cases a6:o<code.length
   .obtain⟨b8,ck,bf,rfl,hb,bN,P⟩:=(bk.out.up (cV 0) c).at_ (cV 0) (by omega) a6
    have aS:Y (code.take (o+1)=code.take o++[code[o]]):=G (List.take_succ_eq_append_getElem a6);generalize code[o]=i at*;obtain⟨W,a,T,t⟩:=i;obtain⟨cx,ca,rfl,r,s,a8,a9,bb⟩:=bN;simp only at r s P a8 a9 bb;obtain⟨al,c1,rfl⟩:=r.form;obtain⟨ao,d1,rfl⟩:=s.form;have a2:=P 0 _ rfl;have bC:=P 1 _ rfl;have bD:=P 2 _ rfl;have bF:=P 3 _ rfl;have bG:=P 4 _ rfl;have bH:=P 5 _ rfl;rw[Nat.add_zero]at a2;obtain⟨aB,ay⟩:∃bf,Y (code.take o=bf):=⟨_,G rfl⟩;have aQ:Y ((aB++[(⟨W,a,T,t⟩:ba)]).length=o+1):=G (by rw[<-ay.out,List.length_append,List.length_take];simp;omega);have bZ:aB.length<=1000:=by have:=aR.out;rw[<-ay.out,List.length_take];omega
    rw[ay.out]at aS q;have k1:(o:Int)<(code.length:Int):=by omega
    have bQ:(0:Int)<=(o:Int):=by omega
    have bR:((o:Int)).toNat=o:=by omega
    clear P;have m:=d.c4;have bs:=d.d4;go_upto_region 6 with fail
    clear bs;generalize l:ah wr _=aY at*;obtain⟨x,b⟩:=aC l;clear l;have b6:=d.lt;have cq:=f.lt;have cw:=e.lt;revert e g f c d r s q m;revert x;refine hV ?_;intro e g f c d r s q m
    clear a2 bC bD bF bG bH k1 bQ bR;have B:=b.k 0;have C:=b.k 1;have E:=b.k 2;have F:=b.k 3;have K:=b.k 4;have L:=b.k 5;have u:=e.k 0;clear u B C E F K L;revert b e g f c d r s q;refine bE (V.refl aY).drew ?_;intro b e g f c d r s q
    replace m:=d.c4;have u:=e.k 0;have B:=b.k 0;have C:=b.k 1;have E:=b.k 2;have F:=b.k 3;have K:=b.k 4;have L:=b.k 5;refine aZ ?_;refine a3 (S:=λX=>V w X/\Cz X (wr.heap.size) 0 [H I W,H I a,H I T,J t.1,D al t.2.1.length c1,D ao t.2.2.length d1]/\Bx 160 X (wr.heap.size) [H I W,H I a,H I T,J t.1,D al t.2.1.length c1,D ao t.2.2.length d1]) (by kernel_rfl) (by exact⟨c,b.cz,b⟩) (λn=> ?_);generalize aY.drew=p at*;refine aa 0 ?_;refine aa 2 ?_;refine aa 3 ?_;refine aa 4 ?_;refine aa 5 ?_;refine aa 6 ?_;refine aa 7 ?_;refine aa 8 ?_
    (refine wpAnyH_take (i:=9) (v:=af #[J t.1,D al t.2.1.length c1,D ao t.2.2.length d1]) rfl (by kernel_rfl) (by decide +kernel) (by decide +kernel) (λ_ _ _ h=>h) (Or.inl ⟨by rfl,λw bL=>fY (off:=3) rfl rfl mj ml bL.2.2 rfl rfl⟩) (by assumption) ?_;try simp only[bc,bg])
    repeat' first
     |(have k:=bh;clear bh
       (try clear n)
       go_simp;refine ax k (by exact⟨c,b.cz,b⟩) (λn=> ?_);clear k A)
     |(have k:=aD;clear aD
       (try clear n)
       go_simp;go_at_call 26
       with_reducible refine(nn).mono ?_
       rintro cb p ⟨rfl,aO⟩;revert b e g f c d r s q m;refine bw aO ?_;intro b e g f c d r s q m
       try(replace R:=R.up aO)
       clear u;have u:=e.k 0;clear B C E F K L;have B:=b.k 0;have C:=b.k 1;have E:=b.k 2;have F:=b.k 3;have K:=b.k 4;have L:=b.k 5;clear aO
       try go_wp2_with fail
       refine ax k (by exact⟨c,b.cz,b⟩) (λn=> ?_);clear k A)
     |(have k:=bi;clear bi
       (try clear n)
       go_simp;have b2:=d.lt;have cn:=f.lt;have bV:=e.lt;have cy:=b.lt;have ct:=c.size;generalize Q:p.heap.size=cc at*;generalize l:ah p _=p at*;obtain⟨x,R⟩:=b3 l Q;clear l Q;revert b e g f c d r s q m;refine bw x ?_;intro b e g f c d r s q m
       clear u;have u:=e.k 0;clear B C E F K L;have B:=b.k 0;have C:=b.k 1;have E:=b.k 2;have F:=b.k 3;have K:=b.k 4;have L:=b.k 5;clear x;refine ax k (by exact⟨c,b.cz,b⟩) (λn=> ?_);clear k A)
     |(have k:=bq;clear bq
       (try clear n)
       have bd:dc p [H I W,H I a,H I T,J t.1,D al t.2.1.length c1,D ao t.2.2.length d1] ⟨W,a,T,t⟩:=⟨_,_,rfl,r,s,a8,a9,bb⟩;refine fm (by rfl) ?_;refine jx (v:=D an o aw) (cV _) underlying41 DO DP (by decide) (w0:=w) (.tmp 28) (.tmp 39) (by rfl) (by rfl) q c (by rfl) R bd (by omega) ?_;intro b0 au aq N aT bj;obtain⟨aV,a1,rfl⟩:=aP.form aq;rw[aQ.out]at aq;rw[aQ.out];replace q:fG w au (D aV (o+1) a1) (aB++[⟨W,a,T,t⟩]):=aq;replace g:=g.ap N (by decide);replace r:=r.kw N.1;replace s:=s.kw N.1;replace d:=N.bx (by decide) d;replace f:=N.bx (by decide) f;replace e:=N.bx (by decide) e;replace b:=N.bx (by decide) b;replace c:=aT;clear aT bj N aq R bd;obtain⟨p,aG⟩:∃z,z=au:=⟨_,rfl⟩;subst aG;replace m:=d.c4;clear u;have u:=e.k 0;clear B C E F K L;have B:=b.k 0;have C:=b.k 1;have E:=b.k 2;have F:=b.k 3;have K:=b.k 4;have L:=b.k 5;refine ax k (by exact⟨c,b.cz,b⟩) (λn=> ?_);clear k A)
     |(have k:=bB;clear bB
       (try clear n)
       have aE:=e.k 0;have aF:=e.free 0;go_simp;clear aE aF;generalize l:ag p _ _=p at*;have j:=eJ e l;clear l;replace q:=q.bs j;replace g:=g.bs j;replace r:=r.kw j.kw;replace s:=s.kw j.kw;replace d:=d.bs j;replace f:=f.bs j;replace b:=b.bs j
       try(replace R:=R.bs j (by first|omega|(have:=cv;omega)|(have:=bV;omega)))
       replace e:=j.new;replace c:=c.bs j;clear j;replace m:=d.c4;clear u;have u:=e.k 0;clear B C E F K L;have B:=b.k 0;have C:=b.k 1;have E:=b.k 2;have F:=b.k 3;have K:=b.k 4;have L:=b.k 5;refine ax k (by exact⟨c,b.cz,b⟩) (λn=> ?_);clear k A)
     |(with_reducible show b5 _ _ _ _ _ _ _ _ _ _
       first
        |refine av (i:=1) rfl (λA bh=> ?_) ?_
        |refine av (i:=10) rfl (λA aD=> ?_) ?_
        |refine av (i:=12) rfl (λA bi=> ?_) ?_
        |refine av (i:=13) rfl (λA bq=> ?_) ?_
        |refine av (i:=15) rfl (λA bB=> ?_) ?_
        |exact bm)
     |(with_reducible show bJ _ _ _ _ _ _ _ _ _
       first
        |refine ak [1,10] ?_
        |refine ak [10] ?_
        |refine ak [1,12] ?_
        |refine ak [12] ?_
        |refine ak [15] ?_
        |refine ak [1] ?_
        |refine ak [13] ?_
        |refine aa 11 ?_
        |refine aa 14 ?_
        |refine aW (by decide +kernel) (aX ?_) _)
     |fail
    all_goals try clear n
    all_goals try(have cu:=R.c6)
    all_goals
     clear B C E F K L u;have aJ:=aR.out;go_wp2
     go_roundw
     case rel=>exact⟨o+1,aV,a1,by go_num,by omega,e,by rw[aS.out];exact q,g,d,f,c⟩
     case measure=>simp[aI];omega
   .obtain rfl:o=code.length:=by omega
    rw[co]at q;have k1:¬((code.length:Int)<(code.length:Int)):=by omega
    have cf:w.heap.size+1<g3:=by omega
    have m:=d.c4;have y:=f.c4;have cm:=f.free;obtain⟨u,aL,aM,aN⟩:=e.c4;go_wp2_with fail;generalize l:ag (ag (ag (ag wr _ _) _ _) _ _) _ _=b1 at*;have j:=bp f l;clear l;replace q:=q.bs j;replace g:=g.bs j;replace d:=d.bs j;replace e:=e.bs j;replace f:=j.new;replace c:=c.bs j;clear j;clear u aL aM aN;replace m:=d.c4;replace y:=f.c4;obtain⟨u,aL,aM,aN⟩:=e.c4;exact a4 (cl rfl rfl DQ DR f rfl) rfl ⟨_,_,_,_,rfl,⟨q,g⟩,c⟩
def DU (gf:Nat)(f:bv)(w:O)(e:aO)(a:O):Prop:=e=aw (J (decide (f≠Z.aG)))/\Bx 63 a gf [H I f.1,H I f.2.1,H I f.2.2.1,H I f.2.2.2]/\Gb gf w a
theorem uF {gf:Nat}{f:bv}{x0 x1 x2 x3:Int}{w:O}(hb:Bx 63 w gf [H I x0,H I x1,H I x2,H I x3])(k:f=Z.aG\/(f.1==0)=false):aj ae 30 #[cJ f,az (U ⟨gf,0,none⟩)] w (DU gf f w):=by
 have q:=hb.lt;obtain⟨r,s,t,u⟩:=hb.c4;have m:=hb.free 0;have n:=hb.free 1;have o:=hb.free 2;have p:=hb.free 3;unfold cJ;rcases k with rfl|l
 .have i:Y (decide (Z.aG≠Z.aG)=false):=G (by simp);unfold Z.aG;go_enter func30,ntmps30;go_wp2;have b:=dK [H I 0,H I 0,H I 0,H I 0] 0 hb rfl (Nat.le_of_ble_eq_true rfl);have c:=(V.refl (jl w gf 0 [H I 0,H I 0,H I 0,H I 0])).alloc (ao #[H I 0,H I 0,H I 0,H I 0] 63);go_ret;exact⟨by first|(rw[i.out];rfl)|rfl,b.new.up c,Gb.trans ⟨b.gr,b.kw⟩ (Gb.up c)⟩
 .obtain⟨a,d,e,g⟩:=f;have i:Y (decide ((a,d,e,g)≠Z.aG)=true):=G (decide_eq_true λj=>absurd (congrArg (λf:bv=>f.1) j) (by simpa[Z.aG]using l));go_enter func30,ntmps30;go_wp2;have b:=dK [H I a,H I d,H I e,H I g] 0 hb rfl (Nat.le_of_ble_eq_true rfl);have c:=(V.refl (jl w gf 0 [H I a,H I d,H I e,H I g])).alloc (ao #[H I a,H I d,H I e,H I g] 63);go_ret;exact⟨by first|(rw[i.out];rfl)|rfl,b.new.up c,Gb.trans ⟨b.gr,b.kw⟩ (Gb.up c)⟩
theorem kM {w:O}(x:Operand)(d:o.op=Op.box T x){cs:List W}(e:a.eval x=v)(c:v.cells=cs.toArray)
 (h:∀b,Bx T b w.heap.size cs->V w b->K (a.put o.dst (az (U ⟨w.heap.size,0,none⟩))) b):Oper.wp ae o a w K Q:=by
 have hb:(Instr.box T v).run ae w= .ok (az (U ⟨w.heap.size,0,none⟩)) (w.alloc (ao cs.toArray T)):=by
  unfold Instr.box newVar newRow;rw[c];rfl
 unfold Oper.wp execOp;simp only[d,e,Oper.upon,Sem.run_bind,Sem.run_pure,Result.andThen_ok,hb];exact h _ (Bx.new T w cs) ((V.refl w).alloc _)
theorem uG {TS:an}{z:W}{size ee:Nat}(E:Tryz.prog.underlying TS=U (.slice T))(hI:d8 T z size ee)(q:ee<=1000){w:O}
 (f c:Operand)(y:o.op=Op.makeSlice TS f c)(n:Nat){L:Int}(v:a.eval f=H I L)(r:a.eval c=H I L)(p:L=(n:Int))(x:n<=1000000)
 (m:∀b,Bx T b w.heap.size (madeCells z.cells (n*size)).toList->V w b->K (a.put o.dst (D (U ⟨w.heap.size,0,none⟩) n n)) b):Oper.wp ae o a w K Q:=by
 obtain⟨M,u,F,G,J⟩:=info_parts hI;obtain⟨b,B,A,s⟩:=run_make_full (P:=ae) w w.heap.size TS T M z size E u F G I I n (by rw[J];exact aQ (Nat.mul_le_mul q x) (by decide)) (by unfold maxLen;omega) (a8 _);subst p;unfold Oper.wp;simp[execOp,y,v,r,B,Result.andThen];refine m b ?_ ((V.refl w).grown s (λk j=>by cases j));rcases A.2 with⟨l,_⟩|⟨R,N,g,e,_,t,_,_,C,d⟩
 .cases l
 .simp at e;obtain⟨rfl,rfl⟩:=e;unfold Bx;rw[t];rw[List.take_of_length_le (by simp[C])]at d
  have i:g=(madeCells z.cells (n*size)).toList.toArray:=by
   apply Array.toList_inj.1;rw[d]
  rw[i]
def Z.fp (q:Pb)(a:Bool)(ny:Int)(start stop first:Rat):Bool:=q.right&&(a&&(decide (ny=q.ar)&&(decide (start<=stop)&&decide (0<first))))
theorem uH {q:Pb}{w:O}(S:c7 kp w [D TA q.code.length aH,D TB q.os.length cB,H I q.ar,H I q.par,al q.nm,D SC q.c.length cc,D SA q.a.length ca,D SB q.b.length cb,D SE q.e.length ce,D PA q.p.length cp,H I q.bits] q)(aC:Y (eD q))(f:Ws w (D A1 l1.length c1) l1)(l:Ws w (D D1 m1.length e1) m1)(g:Ws w (D A2 l2.length c2) l2)(m:Ws w (D D2 m2.length e2) m2)(i:Ws w (D A3 l3.length c3) l3)(n:Ws w (D D3 m3.length e3) m3)(j:Ws w (D A4 l4.length c4) l4)(p:Ws w (D D4 m4.length e4) m4)(k:Ws w (D A5 l5.length c5) l5)(r:Ws w (D D5 m5.length e5) m5)(ar:l1.length<=1000/\m1.length<=1000)(av:l2.length<=1000/\m2.length<=1000)(ax:l3.length<=1000/\m3.length<=1000)(ay:l4.length<=1000/\m4.length<=1000)(az:l5.length<=1000/\m5.length<=1000)(aA: -9223372036854775808<=fi/\fi<=9223372036854775807)(aB: -9223372036854775808<=mo/\mo<=9223372036854775807)
 (d:Fr w (af #[J sS,D AS nS cS,D DS mS dS]) start 1000)(c:Fr w (af #[J sE,D AE nE cE,D DE mE dE]) stop 1000)(hF:Fr w (af #[J sF,D AF nF cH,D DF mF dF]) first 1000):
 aj ae 8 #[af #[D TA q.code.length aH,D TB q.os.length cB,H I q.ar,H I q.par,al q.nm,D SC q.c.length cc,D SA q.a.length ca,D SB q.b.length cb,D SE q.e.length ce,D PA q.p.length cp,H I q.bits,J s1,D A1 l1.length c1,D D1 m1.length e1,J s2,D A2 l2.length c2,D D2 m2.length e2,J s3,D A3 l3.length c3,D D3 m3.length e3,J s4,D A4 l4.length c4,D D4 m4.length e4,J s5,D A5 l5.length c5,D D5 m5.length e5,H I fi,H I mo,J sS,D AS nS cS,D DS mS dS,J sE,D AE nE cE,D DE mE dE,J sF,D AF nF cH,D DF mF dF,D YK nK cK]] w λe aE=>e=aw (J (Z.fp q (Pc.de (List.all [(s1,l1,m1),(s2,l2,m2),(s3,l3,m3),(s4,l4,m4),(s5,l5,m5)] bV) (mkRat (E.iv s1 (E.val l1)) (E.val m1)) (mkRat (E.iv s2 (E.val l2)) (E.val m2)) (mkRat (E.iv s3 (E.val l3)) (E.val m3)) (mkRat (E.iv s4 (E.val l4)) (E.val m4)) (mkRat (E.iv s5 (E.val l5)) (E.val m5)) fi mo==0) nK start stop first))/\V w aE:=by
 have X:=G S;obtain⟨v,N⟩:∃B,Y ((Pc.de (List.all [(s1,l1,m1),(s2,l2,m2),(s3,l3,m3),(s4,l4,m4),(s5,l5,m5)] bV) (mkRat (E.iv s1 (E.val l1)) (E.val m1)) (mkRat (E.iv s2 (E.val l2)) (E.val m2)) (mkRat (E.iv s3 (E.val l3)) (E.val m3)) (mkRat (E.iv s4 (E.val l4)) (E.val m4)) (mkRat (E.iv s5 (E.val l5)) (E.val m5)) fi mo==0)=B):=⟨_,G rfl⟩;rw[N.out];obtain⟨T,M⟩:∃B,Y (q.right=B):=⟨_,G rfl⟩;have u:Y (Z.fp q v nK start stop first=(T&&(v&&(decide ((nK:Int)=q.ar)&&(decide (start<=stop)&&decide (0<first)))))):=G (by rw[<-M.out];rfl);clear S;have b:V w (w.alloc (ao #[D TA q.code.length aH,D TB q.os.length cB,H I q.ar,H I q.par,al q.nm,D SC q.c.length cc,D SA q.a.length ca,D SB q.b.length cb,D SE q.e.length ce,D PA q.p.length cp,H I q.bits,J s1,D A1 l1.length c1,D D1 m1.length e1,J s2,D A2 l2.length c2,D D2 m2.length e2,J s3,D A3 l3.length c3,D D3 m3.length e3,J s4,D A4 l4.length c4,D D4 m4.length e4,J s5,D A5 l5.length c5,D D5 m5.length e5,H I fi,H I mo,J sS,D AS nS cS,D DS mS dS,J sE,D AE nE cE,D DE mE dE,J sF,D AF nF cH,D DF mF dF,D YK nK cK] 57)):=(V.refl w).alloc _;have a:=Bx.new 57 w [D TA q.code.length aH,D TB q.os.length cB,H I q.ar,H I q.par,al q.nm,D SC q.c.length cc,D SA q.a.length ca,D SB q.b.length cb,D SE q.e.length ce,D PA q.p.length cp,H I q.bits,J s1,D A1 l1.length c1,D D1 m1.length e1,J s2,D A2 l2.length c2,D D2 m2.length e2,J s3,D A3 l3.length c3,D D3 m3.length e3,J s4,D A4 l4.length c4,D D4 m4.length e4,J s5,D A5 l5.length c5,D D5 m5.length e5,H I fi,H I mo,J sS,D AS nS cS,D DS mS dS,J sE,D AE nE cE,D DE mE dE,J sF,D AF nF cH,D DF mF dF,D YK nK cK];go_enter func8,ntmps8;go_wp2_with(first|(with_reducible show bG _ _ _ _ _ _;refine ex (o:=⟨_,Op.load 49 _,_,_,_,_⟩) _ rfl (by kernel_rfl) rfl ip iw (by first|exact a|exact Bx.new 57 _ _) rfl rfl ?_)|(with_reducible show bG _ _ _ _ _ _;refine ex (o:=⟨_,Op.load 55 _,_,_,_,_⟩) _ rfl (by kernel_rfl) rfl hh hi (by first|exact a|exact Bx.new 57 _ _) rfl rfl ?_));generalize(w.alloc (ao #[D TA q.code.length aH,D TB q.os.length cB,H I q.ar,H I q.par,al q.nm,D SC q.c.length cc,D SA q.a.length ca,D SB q.b.length cb,D SE q.e.length ce,D PA q.p.length cp,H I q.bits,J s1,D A1 l1.length c1,D D1 m1.length e1,J s2,D A2 l2.length c2,D D2 m2.length e2,J s3,D A3 l3.length c3,D D3 m3.length e3,J s4,D A4 l4.length c4,D D4 m4.length e4,J s5,D A5 l5.length c5,D D5 m5.length e5,H I fi,H I mo,J sS,D AS nS cS,D DS mS dS,J sE,D AE nE cE,D DE mE dE,J sF,D AF nF cH,D DF mF dF,D YK nK cK] 57))=aF at*;revert f l g m i n j p k r d c;refine au b ?_;intro f l g m i n j p k r d c;revert hF;refine cj b ?_;intro hF
 with_reducible refine(mZ (X.out.up b) aC).mono ?_
 rintro e aG ⟨rfl,u1⟩;revert f l g m i n j p k r d c;refine au u1 ?_;intro f l g m i n j p k r d c;revert b a hF;revert u1;refine bX ?_;intro b a hF;rw[M.out];cases T
 .have s:Y (Z.fp q v nK start stop first=false):=G (by rw[u.out];rfl);go_wp2;go_ret;exact⟨by rw[s.out];rfl,b⟩
 go_wp2_with(first|(with_reducible show bG _ _ _ _ _ _;refine ex (o:=⟨_,Op.load 49 _,_,_,_,_⟩) _ rfl (by kernel_rfl) rfl ip iw (by first|exact a|exact Bx.new 57 _ _) rfl rfl ?_)|(with_reducible show bG _ _ _ _ _ _;refine ex (o:=⟨_,Op.load 55 _,_,_,_,_⟩) _ rfl (by kernel_rfl) rfl hh hi (by first|exact a|exact Bx.new 57 _ _) rfl rfl ?_))
 with_reducible refine(CM f l g m i n j p k r ar av ax ay az aA aB).mono ?_
 rintro e aI ⟨rfl,u2⟩;revert f l g m i n j p k r d c;refine au u2 ?_;intro f l g m i n j p k r d c;revert b a hF;revert u2;refine bX ?_;intro b a hF;rw[N.out];cases v
 .have s:Y (Z.fp q false nK start stop first=false):=G (by rw[u.out];rfl);go_wp2;go_ret;exact⟨by rw[s.out];rfl,b⟩
 by_cases t:(nK:Int)=q.ar
 rotate_left
 .have s:Y (Z.fp q true nK start stop first=false):=G (by rw[u.out,decide_eq_false t];rfl);have aD:((nK:Int)==q.ar)=false:=by rw[beq_eq_false_iff_ne];exact t
  have P:=a.k 2;have Q:=a.k 37;clear t;go_wp2;go_ret;exact⟨by rw[s.out];rfl,b⟩
 have W:=G t;have aD:((nK:Int)==q.ar)=true:=by rw[beq_iff_eq];exact t
 clear t;have P:=a.k 2;have aa:=a.k 28;have ab:=a.k 29;have ag:=a.k 30;have ah:=a.k 31;have ai:=a.k 32;have ak:=a.k 33;have y:=a.k 34;have z:=a.k 35;have A:=a.k 36;have Q:=a.k 37;obtain⟨an,F⟩:∃C,Y (E.cI stop start=C):=⟨_,G rfl⟩;have x:=G (Pc.Aa stop start);rw[F.out]at x;go_wp2_with(first|(with_reducible show bG _ _ _ _ _ _;refine ex (o:=⟨_,Op.load 49 _,_,_,_,_⟩) _ rfl (by kernel_rfl) rfl ip iw (by first|exact a|exact Bx.new 57 _ _) rfl rfl ?_)|(with_reducible show bG _ _ _ _ _ _;refine ex (o:=⟨_,Op.load 55 _,_,_,_,_⟩) _ rfl (by kernel_rfl) rfl hh hi (by first|exact a|exact Bx.new 57 _ _) rfl rfl ?_))
 with_reducible refine(f9 c d (by omega) (by omega)).mono ?_
 rintro e aJ ⟨rfl,u3⟩;clear P aa ab ag ah ai ak y z A Q;revert f l g m i n j p k r d c;refine au u3 ?_;intro f l g m i n j p k r d c;revert b a hF;revert u3;refine bX ?_;intro b a hF;rw[F.out]
 by_cases R:an>=0
 rotate_left
 .have s:Y (Z.fp q true nK start stop first=false):=G (by rw[u.out,<-x.out,decide_eq_false R];simp);go_wp2;go_ret;exact⟨by rw[s.out];rfl,b⟩
 have U:Y (decide (start<=stop)=true):=G (by rw[<-x.out];exact decide_eq_true R);obtain⟨aq,K⟩:∃C,Y (E.bU first.num=C):=⟨_,G rfl⟩;have L:=G (Pc.jt first);rw[K.out]at L;have y:=a.k 34;have z:=a.k 35;have A:=a.k 36;go_wp2_with(first|(with_reducible show bG _ _ _ _ _ _;refine ex (o:=⟨_,Op.load 49 _,_,_,_,_⟩) _ rfl (by kernel_rfl) rfl ip iw (by first|exact a|exact Bx.new 57 _ _) rfl rfl ?_)|(with_reducible show bG _ _ _ _ _ _;refine ex (o:=⟨_,Op.load 55 _,_,_,_,_⟩) _ rfl (by kernel_rfl) rfl hh hi (by first|exact a|exact Bx.new 57 _ _) rfl rfl ?_))
 with_reducible refine(fQ hF (by omega)).mono ?_
 rintro e aK ⟨rfl,u4⟩;clear y z A;revert f l g m i n j p k r d c;refine au u4 ?_;intro f l g m i n j p k r d c;revert b a hF;revert u4;refine bX ?_;intro b a hF;rw[K.out];have s:Y (Z.fp q true nK start stop first=decide (aq>0)):=G (by rw[u.out,U.out,<-L.out,decide_eq_true W.out];simp);go_wp2;go_ret;exact⟨by rw[s.out];rfl,b⟩
namespace Z
structure gV (k:Tk):Prop where
 le:k.start<=k.stop
 fst:0<k.first
 low:0<k.r.low
 high:1<=k.r.high
 mo:1<=k.r.mo/\k.r.mo<=200
 ar:1<=k.y.length/\k.y.length<=6
structure Inv (k:Tk) (n:Nat) (s:So):Prop where
 len:s.tries.length=n
 np:(n:Int)<=k.r.mo\/n=0
 pos:0<s.want
 le:s.t<=k.stop
 yl:s.y.length=k.y.length
 lens:∀r∈s.tries,r.y.length=k.y.length
 hg:∀r∈s.tries,0<r.want/\0<r.h/\r.h<=r.want/\0<=r.err
 chain:∀(i:Nat) (h:i<s.tries.length),follows s.tries[i] (fW s.tries s.t i) (fX s.tries s.y i)
 last:∀(h:0<s.tries.length),s.want=s.tries[s.tries.length-1].h*Pc.et k.r.cZ k.r.safe k.r.low k.r.high k.r.fi s.tries[s.tries.length-1].err
 first:s.tries.length=0->s.want=k.first
theorem DV {trs:List Tr}{r:Tr}(h:i<trs.length):fW (trs++[r]) t i=fW trs r.t i:=by
 unfold fW;rw[dif_pos (by simp;omega)]
 by_cases a:i+1<trs.length
 .rw[dif_pos a,List.getElem_append_left a]
 .rw[dif_neg a,List.getElem_append_right (by omega)];simp
theorem DW {trs:List Tr}{r:Tr}(h:i<trs.length):fX (trs++[r]) y i=fX trs r.y i:=by
 unfold fX;rw[dif_pos (by simp;omega)]
 by_cases a:i+1<trs.length
 .rw[dif_pos a,List.getElem_append_left a]
 .rw[dif_neg a,List.getElem_append_right (by omega)];simp
theorem uI:∀(l:List Rat) (b:Rat),0<=b->0<=l.foldl (λb x=>if b<E.dZ x then E.dZ x else b) b
 |[],b,f=>f
 |q::l,b,f=>by
  rw[List.foldl_cons];refine uI l _ ?_
  split
  .rename_i a
   exact Rat.le_trans f (Rat.le_of_lt a)
  .exact f
theorem DX (h1:0<low)(h2:1<=high):0<Pc.et cZ safe low high fi e:=by
 have a:(0:Rat)<high:=by grind
 unfold Pc.et
 split
 .exact a
 .split
  .exact h1
  .rename_i b
   split
   .exact a
   .have:=Rat.not_lt.1 b
    grind
theorem uJ {k:Tk}{s:So}(h:df k s=aG):may k s=aG/\(made k s).1=aG:=by
 unfold df at h
 by_cases a:may k s=aG
 .rw[if_pos a]at h;refine⟨a,?_⟩
  by_cases b:(made k s).1=aG
  .exact b
  .rw[if_neg b]at h;have d:((s.tries.length:Int)+1)=0:=congrArg (λc:bv=>c.2.1) h;omega
 .rw[if_neg a]at h;exact absurd h a
theorem DY (c:List Rat)(a:List (List Rat))(n:Nat):(mix c a n).length=n:=by simp[mix]
theorem DZ {P:Pr}{h:Rat}(a:(step P t h y).1=aG):(step P t h y).2.next.length=y.length:=by
 unfold step at a|-;simp only at a|-
 split
 .rename_i b
  rw[if_pos b]at a
  split
  .rename_i c
   rw[if_pos c]at a
   split
   .simp[from_,fh,DY]
   .rename_i d
    rw[if_neg d]at a;exact absurd a d
  .rename_i c
   rw[if_neg c]at a;exact absurd a c
 .rename_i b
  rw[if_neg b]at a;exact absurd a b
theorem D0 {k:Tk}{s:So}(h:may k s=aG):(s.tries.length:Int)≠k.r.mo:=by
 intro a;unfold may at h;rw[if_pos a]at h;exact absurd (congrArg (λb:bv=>b.1) h) (show((5:Int)≠0)by decide)
theorem D6 {k:Tk}(h:gV k):Inv k 0 (ik k):=
 ⟨rfl,.inr rfl,h.fst,h.le,rfl,by simp[ik],by simp[ik],λb a=>by simp[ik]at a,λa=>by simp[ik]at a,λ_=>rfl⟩
theorem D7 {eC want:Rat}(h:t<eC)(hw:0<want):0<Pc.cut t eC want/\Pc.cut t eC want<=want/\t+Pc.cut t eC want<=eC:=by
 unfold Pc.cut
 split
 .rename_i a
  refine⟨by grind,by grind,by grind⟩
 .rename_i a
  refine⟨hw,by grind,by grind⟩
theorem D8 {k:Tk}{s:So}(g:gV k)(h:Inv k n s)(z:s.t≠k.stop)(m:df k s=aG):Inv k (n+1) (more k s):=by
 obtain⟨u,j⟩:=uJ m;have t:s.t<k.stop:=by have:=h.le;grind
 obtain⟨c1,c2,c3⟩:=D7 t h.pos;have v:=DZ j;have y:=D0 u;have p:=h.len;have l:0<=norm (made k s).2.err:=uI _ _ (by grind);have q:(more k s).tries.length=n+1:=by simp[more,p]
 refine⟨q,.inl (by have:=h.np;have:=g.mo;omega),?_,?_,?_,?_,?_,?_,?_,λi=>by omega⟩
 .exact Rat.mul_pos c1 (DX g.low g.high)
 .show(if decide _=true then _ else _)<=_
  split
  .exact c3
  .exact h.le
 .show List.length (if decide (norm (made k s).2.err<=k.r.cZ)=true then(made k s).2.next else s.y)=_
  split
  .exact v.trans h.yl
  .exact h.yl
 .intro r a;rcases List.mem_append.1 a with a|a
  .exact h.lens r a
  .simp at a;subst a;exact h.yl
 .intro r a;rcases List.mem_append.1 a with a|a
  .exact h.hg r a
  .simp at a;subst a;exact⟨h.pos,c1,c2,l⟩
 .intro b x
  by_cases d:b<s.tries.length
  .have c:(more k s).tries[b]=s.tries[b]:=List.getElem_append_left d;have e:fW (more k s).tries (more k s).t b=fW s.tries s.t b:=DV d;have f:fX (more k s).tries (more k s).y b=fX s.tries s.y b:=DW d;rw[c,e,f];exact h.chain b d
  .have o:b=s.tries.length:=by omega
   have c:(more k s).tries[b]=⟨s.t,s.want,size k s,norm (made k s).2.err,s.y,decide (norm (made k s).2.err<=k.r.cZ)⟩:=by
    subst o;exact List.getElem_append_right (by omega)|>.trans (by simp)
   have e:fW (more k s).tries (more k s).t b=(more k s).t:=by unfold fW;rw[dif_neg (by omega)]
   have f:fX (more k s).tries (more k s).y b=(more k s).y:=by unfold fX;rw[dif_neg (by omega)]
   rw[c,e,f];unfold follows;show if decide _=true then(if decide _=true then _ else _)=_ else((if decide _=true then _ else _)=_/\(if decide _=true then _ else _)=_)
   split
   .rfl
   .exact⟨rfl,rfl⟩
 .intro A
  have c:(more k s).tries[(more k s).tries.length-1]=⟨s.t,s.want,size k s,norm (made k s).2.err,s.y,decide (norm (made k s).2.err<=k.r.cZ)⟩:=by
   have i:(more k s).tries.length-1=s.tries.length:=by omega
   simp only[i];exact List.getElem_append_right (by omega)|>.trans (by simp)
  rw[c];rfl
theorem kN {k:Tk}(a:gV k):∀(n:Nat) {s:So},st k n=U s->Inv k n s
 |0,s,f=>by
  rw[st]at f;cases f;exact D6 a
 |n+1,m,f=>by
  rw[st]at f
  split at f
  .cases f
  .rename_i s d
   split at f
   .cases f
   .rename_i c
    split at f
    .rename_i b
     cases f;exact D8 a (kN a n d) c b
    .cases f
theorem pS {k:Tk}(a:gV k){s:So}(h:st k n=U s):n<=k.r.mo.toNat:=by
 have:=(kN a n h).np;omega
theorem uK {k:Tk}(a:gV k){s:So}(h:Inv k n s):hO s.tries s.t s.y where
 lens:=λr b=>(h.lens r b).trans h.yl.symm
 ar:=by rw[h.yl];exact a.ar
 many:=by have:=h.np;have:=h.len;have:=a.mo;omega
 hg:=h.hg
 chain:=h.chain
end Z
theorem D9 {x:Rat}(h0:0<=Pc.down x fi)(h:Pc.down x fi<=high)(g:E.Lq high 6)(l:1<=fi)(m:fi<=1024):E.Lq (Pc.down x fi) 8:=by
 have f:(Pc.down x fi).den<=1024:=by
  unfold Pc.down;rw[Rat.den_mkRat,if_neg (by omega)];exact aQ (Nat.div_le_self _ _) (by omega)
 generalize Pc.down x fi=a at*;have i:0<=a.num:=Rat.num_nonneg.2 h0;have o:=(Rat.le_iff a high).1 h
 have n:a.num<=high.num*1024:=by
  have j:a.num<=a.num*(high.den:Int):=by
   have:=Int.mul_le_mul_of_nonneg_left (show(1:Int)<=(high.den:Int)by have:=high.den_pos;omega) i
   rwa [Int.mul_one]at this
  have c:0<=high.num:=by
   have:0<=high:=Rat.le_trans h0 h;exact Rat.num_nonneg.2 this
  have k:high.num*(a.den:Int)<=high.num*1024:=Int.mul_le_mul_of_nonneg_left (by omega) c;omega
 have d:a.num.natAbs<=high.num.natAbs*1024:=by omega
 have e:=E.eo.1 g.1;refine⟨E.eo.2 ?_,E.eo.2 ?_⟩
 .have b:(1024:Nat)<=E.B:=by rw[E.bL];decide
  calc a.num.natAbs<=high.num.natAbs*1024:=d
   _<=high.num.natAbs*E.B:=Nat.mul_le_mul_left _ b
   _<E.B^6*E.B:=Nat.mul_lt_mul_of_pos_right e (by omega)
   _=E.B^7:=(Nat.pow_succ ..).symm
   _<=E.B^8:=Nat.pow_le_pow_right (by omega) (by omega)
 .have b:(1024:Nat)<E.B:=by rw[E.bL];decide
  calc a.den<=1024:=f
   _<E.B:=b
   _=E.B^1:=(Nat.pow_one _).symm
   _<=E.B^8:=Nat.pow_le_pow_right (by omega) (by omega)
theorem Ea (d:E.Lq low 6)(a:E.Lq high 6)(g:0<low)(b:1<=fi)(c:fi<=1024):E.Lq (Pc.et cZ safe low high fi e) 8:=by
 unfold Pc.et
 split
 .exact a.mono (by omega)
 .split
  .exact d.mono (by omega)
  .rename_i q1
   split
   .exact a.mono (by omega)
   .rename_i f
    have q1:=Rat.not_lt.1 q1;exact D9 (by grind) (Rat.not_lt.1 f) a b c
theorem uL {r:ay}(h:bV r=true):E.Lq r.val 6:=by
 unfold bV d0 at h;simp only[Bool.and_eq_true,decide_eq_true_eq]at h;obtain⟨⟨_,c,d⟩,e⟩:=h;rw[c,d,E.bl,E.bl]at e
 have b:∀a,E.bD a<=190->(E.words a).length<=6:=λa f=>by
  refine E.eo.2 (Nat.lt_of_lt_of_le ((E.lG 190 a).1 f) ?_);rw[E.bL]
  decide
 exact⟨b _ (by omega),b _ (by omega)⟩
theorem uM {q:Pb}(h:Z.fp q (Pc.de (List.all [(s1,l1,m1),(s2,l2,m2),(s3,l3,m3),(s4,l4,m4),(s5,l5,m5)] bV) (mkRat (E.iv s1 (E.val l1)) (E.val m1)) (mkRat (E.iv s2 (E.val l2)) (E.val m2)) (mkRat (E.iv s3 (E.val l3)) (E.val m3)) (mkRat (E.iv s4 (E.val l4)) (E.val m4)) (mkRat (E.iv s5 (E.val l5)) (E.val m5)) fi mo==0) ys.length start stop first=true):
 q.right=true/\Z.gV ⟨q.pr,⟨(mkRat (E.iv s1 (E.val l1)) (E.val m1)),(mkRat (E.iv s2 (E.val l2)) (E.val m2)),(mkRat (E.iv s3 (E.val l3)) (E.val m3)),(mkRat (E.iv s4 (E.val l4)) (E.val m4)),(mkRat (E.iv s5 (E.val l5)) (E.val m5)),fi,mo⟩,start,stop,first,ys⟩/\(∀e,E.Lq (Pc.et (mkRat (E.iv s1 (E.val l1)) (E.val m1)) (mkRat (E.iv s2 (E.val l2)) (E.val m2)) (mkRat (E.iv s3 (E.val l3)) (E.val m3)) (mkRat (E.iv s4 (E.val l4)) (E.val m4)) fi e) 8)/\(1<=fi/\fi<=1024)/\(ys.length:Int)=q.ar:=by
 unfold Z.fp at h;simp only[Bool.and_eq_true,decide_eq_true_eq]at h;obtain⟨d,i,j,k,l⟩:=h;have hw:=Pc.Ad (by simpa using i:Pc.de (List.all [(s1,l1,m1),(s2,l2,m2),(s3,l3,m3),(s4,l4,m4),(s5,l5,m5)] bV) (mkRat (E.iv s1 (E.val l1)) (E.val m1)) (mkRat (E.iv s2 (E.val l2)) (E.val m2)) (mkRat (E.iv s3 (E.val l3)) (E.val m3)) (mkRat (E.iv s4 (E.val l4)) (E.val m4)) (mkRat (E.iv s5 (E.val l5)) (E.val m5)) fi mo=0);obtain⟨a,w1,w2,w3,w4,w5,b,c,m,n⟩:=hw;simp only[List.all_cons,List.all_nil,Bool.and_eq_true]at a;have o:=(io (kB d).1).1;have f:E.Lq (mkRat (E.iv s3 (E.val l3)) (E.val m3)) 6:=uL a.2.2.1;have g:E.Lq (mkRat (E.iv s4 (E.val l4)) (E.val m4)) 6:=uL a.2.2.2.1;exact⟨d,⟨k,l,w3.1,w4,⟨m,n⟩,by show 1<=ys.length/\ys.length<=6;omega⟩,λe=>Ea f g w3.1 b c,⟨b,c⟩,j⟩
def Z.mz:Nat->Nat
 |0=>2
 |n+1=>2*Z.mz n+14
theorem Z.GQ {n:Nat}(h:n<=12):Z.mz n<=66000:=by
 match n,h with
 |0,_=>decide
 |1,_=>decide
 |2,_=>decide
 |3,_=>decide
 |4,_=>decide
 |5,_=>decide
 |6,_=>decide
 |7,_=>decide
 |8,_=>decide
 |9,_=>decide
 |10,_=>decide
 |11,_=>decide
 |12,_=>decide
 |n+13,h=>omega
def Z.Ends (k:Z.Tk)(s:Z.So)(f:bv):Prop:= ∃n,Z.st k n=U s/\((s.t=k.stop/\f=Z.aG)\/(s.t≠k.stop/\Z.df k s≠Z.aG/\f=Z.df k s))
def nr (k g:Nat)(w:O)(x:List W)(trs:List Z.Tr)(t:Rat)(y:List Rat):Prop:= ∃(b a ai c:Option am) (l:Bool) (e j d i f cy:Nat),x=[D b trs.length e,J l,D a j d,D ai i f,D c y.length cy]/\(∃m,dd k g m w (D b trs.length e) trs)/\Qk k w (af #[J l,D a j d,D ai i f]) t/\aF g w (D c y.length cy) y
theorem nr.p {ky:Nat}{w:O}{x:List W}{trs:List Z.Tr}(h:nr k ky w x trs t y):ew k ky w x trs t y:=by
 obtain⟨b,a,ai,f,s,cT,n,c,g,d,cy,e,⟨_,h1⟩,h2⟩:=h;exact⟨b,a,ai,f,s,cT,n,c,g,d,cy,e,h1.sn,h2⟩
def nt (r:Bool)(k:Z.Tk)(w:O)(e:aO)(c:O):Prop:=V w c/\(r=false->e=aw (aY #[af #[D none 0 0,J false,D none 0 0,D none 0 0,D none 0 0],af #[H I 2,H I 0,H I 0,H I 0]]))/\
 (r=true-> ∃d a b,e=aw (aY #[af d.toArray,cJ b])/\nr 100000 130 c d a.tries a.t a.y/\Z.Ends k a b/\E.Lq a.t 66000/\E.Lq a.want 66000)
theorem kO (w:O):(ct 61).run ae w= .ok true w:=by kernel_rfl
theorem kP (w:O):(ci 61).run ae w= .ok 5 w:=by kernel_rfl
theorem row_one {vc:W}{c:Rat}{qs:List Rat}{w:O}(f:Fr w vc c 2)(h:aU 2 w v qs)(i:qs.length<=10000)(b:Y (Pq.sc c qs=qs)):aj ae 29 #[vc,v] w (AD 130 qs w):=
 (he f h.sq (by omega) (by omega) (by omega)).mono λg j ⟨v,d,a,e⟩=>⟨v,d,(aL.mono (by rw[b.out]at a;exact a) (by omega)).a,e⟩
theorem dD.bs {T:an}{g:Nat}{w0 w ab:O}{gs m:Nat}{tc:List W}{s:Z.So}{old new:List W}(h:dD w0 w gs tc m s)(b:Bs T g w ab old new)(o:gs≠g)(a:53≠T/\69≠T:=by decide):dD w0 ab gs tc m s:=by
 obtain⟨i,c,e,j,d,f,s1,s2,cT,r,c1,p,d1,cy,t,c2,q,d2,h1,h2,k,l,n⟩:=h;exact⟨i,c,e,j,d,f,s1,s2,cT,r,c1,p,d1,cy,t,c2,q,d2,h1.bs b o,h2.bs b a,k.kw b.kw,l.bs b a.1,n.kw b.kw⟩
theorem Kz.bx {w:O}{S:an}{vs:List W}(h:Kz w ab)(hb:Bx S w g vs)(a:S≠97/\S≠69):Bx S ab g vs:=h S g vs a hb
def kQ (w:O)(g:Nat):Nat:=match w.cell? ⟨g,38,none⟩with
 |some (D _ f _)=>f
 |_=>0
theorem uN {w:O}(B:Gb g w ab)(d:Bx T w g old)(b:Bx T ab g new):Bs T g w ab old new:=
 ⟨d,b,B.2,B.1,λc hb=>B.bx hb c,λe a=>B.du e a⟩
theorem dD.tries {w0 w:O}{gs m:Nat}{tc:List W}{s:Z.So}(h:dD w0 w gs tc m s)(a:tc.length=38):kQ w gs=s.tries.length:=by
 obtain⟨f,b,d,g,c,e,s1,s2,cT,l,c1,j,d1,cy,n,c2,k,d2,h1,_⟩:=h;unfold kQ;rw[h1.cell (i:=38) (by rw[List.getElem?_append_right (by omega),a];rfl)]
theorem Eb (mo:Int)(least:Rat)(s:Z.So):Z.ho mo least s=Z.aG\/((Z.ho mo least s).1==0)=false:=by
 unfold Z.ho
 split
 .exact .inr rfl
 .split
  .exact .inr rfl
  .exact .inl rfl
theorem Ec (k:Z.Tk)(s:Z.So):Z.gn k s=Z.aG\/((Z.gn k s).1==0)=false:=by
 unfold Z.gn
 split
 .exact .inl rfl
 .rename_i b
  refine .inr ?_;rw[beq_eq_false_iff_ne];rcases Z.m9 k.P s.t (Z.size k s) s.y with a|a
  .exact absurd a b
  .exact a
theorem uO {q:Pb}{w:O}(cU:c7 kp w [D TA q.code.length aH,D TB q.os.length cB,H I q.ar,H I q.par,al q.nm,D SC q.c.length cc,D SA q.a.length ca,D SB q.b.length cb,D SE q.e.length ce,D PA q.p.length cp,H I q.bits] q)(cV:Y (eD q))(M:Ws w (D A1 l1.length c1) l1)(R:Ws w (D D1 m1.length e1) m1)(C:Ws w (D A2 l2.length c2) l2)(W:Ws w (D D2 m2.length e2) m2)(N:Ws w (D A3 l3.length c3) l3)(X:Ws w (D D3 m3.length e3) m3)(P:Ws w (D A4 l4.length c4) l4)(ab:Ws w (D D4 m4.length e4) m4)(Q:Ws w (D A5 l5.length c5) l5)(ai:Ws w (D D5 m5.length e5) m5)(cg:l1.length<=1000/\m1.length<=1000)(ch:l2.length<=1000/\m2.length<=1000)(ci:l3.length<=1000/\m3.length<=1000)(ck:l4.length<=1000/\m4.length<=1000)(cl:l5.length<=1000/\m5.length<=1000)(dM: -9223372036854775808<=fi/\fi<=9223372036854775807)(dO: -9223372036854775808<=mo/\mo<=9223372036854775807)
 (A:Fr w (af #[J sS,D AS nS cS,D DS mS dS]) start 2)(K:Fr w (af #[J sE,D AE nE cE,D DE mE dE]) stop 2)(hF:Fr w (af #[J sF,D AF nF cH,D DF mF dF]) first 2)(an:aU 2 w (D YK nK cK) ys)(dN:kp<=1000)
 (cX:Y (Z.gV ⟨q.pr,⟨(mkRat (E.iv s1 (E.val l1)) (E.val m1)),(mkRat (E.iv s2 (E.val l2)) (E.val m2)),(mkRat (E.iv s3 (E.val l3)) (E.val m3)),(mkRat (E.iv s4 (E.val l4)) (E.val m4)),(mkRat (E.iv s5 (E.val l5)) (E.val m5)),fi,mo⟩,start,stop,first,ys⟩-> ∀n s,Z.st ⟨q.pr,⟨(mkRat (E.iv s1 (E.val l1)) (E.val m1)),(mkRat (E.iv s2 (E.val l2)) (E.val m2)),(mkRat (E.iv s3 (E.val l3)) (E.val m3)),(mkRat (E.iv s4 (E.val l4)) (E.val m4)),(mkRat (E.iv s5 (E.val l5)) (E.val m5)),fi,mo⟩,start,stop,first,ys⟩ n=U s->n<=12)):
 aj ae 7 #[af #[D TA q.code.length aH,D TB q.os.length cB,H I q.ar,H I q.par,al q.nm,D SC q.c.length cc,D SA q.a.length ca,D SB q.b.length cb,D SE q.e.length ce,D PA q.p.length cp,H I q.bits,J s1,D A1 l1.length c1,D D1 m1.length e1,J s2,D A2 l2.length c2,D D2 m2.length e2,J s3,D A3 l3.length c3,D D3 m3.length e3,J s4,D A4 l4.length c4,D D4 m4.length e4,J s5,D A5 l5.length c5,D D5 m5.length e5,H I fi,H I mo,J sS,D AS nS cS,D DS mS dS,J sE,D AE nE cE,D DE mE dE,J sF,D AF nF cH,D DF mF dF,D YK nK cK]] w (nt (Z.fp q (Pc.de (List.all [(s1,l1,m1),(s2,l2,m2),(s3,l3,m3),(s4,l4,m4),(s5,l5,m5)] bV) (mkRat (E.iv s1 (E.val l1)) (E.val m1)) (mkRat (E.iv s2 (E.val l2)) (E.val m2)) (mkRat (E.iv s3 (E.val l3)) (E.val m3)) (mkRat (E.iv s4 (E.val l4)) (E.val m4)) (mkRat (E.iv s5 (E.val l5)) (E.val m5)) fi mo==0) nK start stop first) ⟨q.pr,⟨(mkRat (E.iv s1 (E.val l1)) (E.val m1)),(mkRat (E.iv s2 (E.val l2)) (E.val m2)),(mkRat (E.iv s3 (E.val l3)) (E.val m3)),(mkRat (E.iv s4 (E.val l4)) (E.val m4)),(mkRat (E.iv s5 (E.val l5)) (E.val m5)),fi,mo⟩,start,stop,first,ys⟩ w):=by
 have cw:=G cU;have di:Y (Fr w (af #[J s1,D A1 l1.length c1,D D1 m1.length e1]) (mkRat (E.iv s1 (E.val l1)) (E.val m1)) 1000):=G ⟨_,_,_,_,_,rfl,M,R,rfl,cg.1,cg.2,by omega⟩;have dj:Y (Fr w (af #[J s2,D A2 l2.length c2,D D2 m2.length e2]) (mkRat (E.iv s2 (E.val l2)) (E.val m2)) 1000):=G ⟨_,_,_,_,_,rfl,C,W,rfl,ch.1,ch.2,by omega⟩;have dk:Y (Fr w (af #[J s3,D A3 l3.length c3,D D3 m3.length e3]) (mkRat (E.iv s3 (E.val l3)) (E.val m3)) 1000):=G ⟨_,_,_,_,_,rfl,N,X,rfl,ci.1,ci.2,by omega⟩;have dn:Y (Fr w (af #[J s4,D A4 l4.length c4,D D4 m4.length e4]) (mkRat (E.iv s4 (E.val l4)) (E.val m4)) 1000):=G ⟨_,_,_,_,_,rfl,P,ab,rfl,ck.1,ck.2,by omega⟩;have dp:Y (Fr w (af #[J s5,D A5 l5.length c5,D D5 m5.length e5]) (mkRat (E.iv s5 (E.val l5)) (E.val m5)) 1000):=G ⟨_,_,_,_,_,rfl,Q,ai,rfl,cl.1,cl.2,by omega⟩;have cu:=G K
 have du:Y (nK=ys.length):=G (by
  obtain⟨d0,es,dI⟩:=an.form;injection dI)
 obtain⟨k,aV⟩:∃k:Z.Tk,Y (k=⟨q.pr,⟨(mkRat (E.iv s1 (E.val l1)) (E.val m1)),(mkRat (E.iv s2 (E.val l2)) (E.val m2)),(mkRat (E.iv s3 (E.val l3)) (E.val m3)),(mkRat (E.iv s4 (E.val l4)) (E.val m4)),(mkRat (E.iv s5 (E.val l5)) (E.val m5)),fi,mo⟩,start,stop,first,ys⟩):=⟨_,G rfl⟩;rw[<-aV.out]at cX|-;obtain⟨r,b4⟩:∃t,Y (Z.fp q (Pc.de (List.all [(s1,l1,m1),(s2,l2,m2),(s3,l3,m3),(s4,l4,m4),(s5,l5,m5)] bV) (mkRat (E.iv s1 (E.val l1)) (E.val m1)) (mkRat (E.iv s2 (E.val l2)) (E.val m2)) (mkRat (E.iv s3 (E.val l3)) (E.val m3)) (mkRat (E.iv s4 (E.val l4)) (E.val m4)) (mkRat (E.iv s5 (E.val l5)) (E.val m5)) fi mo==0) nK start stop first=t):=⟨_,G rfl⟩;rw[b4.out];clear cU;go_enter func7,ntmps7;go_upto_region 1 with fail
 generalize x:ah (ah (ah w _) _) _=cD at*;obtain⟨d,e,b,a⟩:=dm x;clear x;revert M R C W N X P ab Q ai A K;refine au d ?_;intro M R C W N X P ab Q ai A K;revert hF an;refine cR d ?_;intro hF an;have f:=b.c5;have ao:=b.free;have g:=a.c4;have F:=a.free
 go_step3
 go_wp2_with(with_reducible show bG _ _ _ _ _ _;refine ex (o:=⟨_,Op.load 57 _,_,_,_,_⟩) _ rfl (by kernel_rfl) rfl hP hQ e rfl rfl ?_);refine(uH (cw.out.up d) cV M R C W N X P ab Q ai cg ch ci ck cl dM dO (A.mono (by omega)) (K.mono (by omega)) (hF.mono (by omega))).mono ?_;rintro aR w1 ⟨rfl,a1⟩;rw[b4.out];clear g;revert M R C W N X P ab Q ai A K;refine au a1 ?_;intro M R C W N X P ab Q ai A K;revert d e b a hF an f;refine bS a1 ?_;intro d e b a hF an f;replace ao:=b.free;have g:=a.c4;replace F:=a.free;clear a1;cases r
 .skip;clear an;go_wp2_with fail;generalize x:ag (ag (ag (ag (ag w1 _ _) _ _) _ _) _ _) _ _=dv at*;have c:=e8 b x;clear x;revert M R C W N X P ab Q ai A K;refine au c.kw ?_;intro M R C W N X P ab Q ai A K;revert hF;refine cj c.kw ?_;intro hF
  replace e:=e.bs c;replace a:=a.bs c;replace b:=c.new;replace d:=d.bs c;clear c;clear f g;have f:=b.c5;have g:=a.c4;replace F:=a.free;generalize x:ag (ag (ag (ag dv _ _) _ _) _ _) _ _=ei at*;have c:=bp a x;clear x;revert M R C W N X P ab Q ai A K;refine au c.kw ?_;intro M R C W N X P ab Q ai A K;revert hF;refine cj c.kw ?_;intro hF
  replace e:=e.bs c;replace b:=b.bs c;replace a:=c.new;replace d:=d.bs c;clear c;clear f g;have f:=b.c5;have g:=a.c4;rw[Exit.noGoto_ret];exact a4 (gl rfl rfl rfl kO kP bM bN b rfl a rfl) rfl ⟨d,λ_=>rfl,λaL=>by cases aL⟩
 go_upto_region 3 with fail
 have dq:Y (Pq.sc 1 ys=ys):=G (by unfold Pq.sc;simp);have d9:Y (∀cm∈ys,E.Lq cm 130):=G (λcm dP=>(an.lq cm dP).mono (by omega));obtain⟨c8,b3⟩:∃o:Rat,Y (((1:Int):Rat)=o):=⟨_,G rfl⟩;have dg:Y (E.Lq c8 2):=G (by rw[<-b3.out];exact dR (by omega));have dr:Y (Pq.sc c8 ys=ys):=G (by rw[<-b3.out];exact dq.out);have bd:=G (uM (by have bq:=b4.out;rw[du.out]at bq;exact bq));have cA:Y (Z.gV k):=G (by rw[aV.out];exact bd.out.2.1)
 have dQ:ys.length<=10000:=by
  have bq:=bd.out.2.1.ar.2;have dJ:ys.length<=6:=bq;omega
 have aA:=e.k 28;have aB:=e.k 29;have aD:=e.k 30;have aE:=e.k 34;have aF:=e.k 35;have aG:=e.k 36;have aI:=e.k 37;clear g;revert M R C W N X P ab Q ai A K;refine au (V.refl w1).drew ?_;intro M R C W N X P ab Q ai A K;revert d e b a hF an aA aB aD aE aF aG;refine au (V.refl w1).drew ?_;intro d e b a hF an aA aB aD aE aF aG;revert f aI;refine cR (V.refl w1).drew ?_;intro f aI;replace ao:=b.free;have g:=a.c4;replace F:=a.free;refine aZ ?_;refine a3 (S:=λb1=>V w b1/\Cz b1 (w.heap.size) 28 [J sS,D AS nS cS,D DS mS dS]/\Cz b1 (w.heap.size) 34 [J sF,D AF nF cH,D DF mF dF,D YK nK cK]/\Bx 57 b1 (w.heap.size) [D TA q.code.length aH,D TB q.os.length cB,H I q.ar,H I q.par,al q.nm,D SC q.c.length cc,D SA q.a.length ca,D SB q.b.length cb,D SE q.e.length ce,D PA q.p.length cp,H I q.bits,J s1,D A1 l1.length c1,D D1 m1.length e1,J s2,D A2 l2.length c2,D D2 m2.length e2,J s3,D A3 l3.length c3,D D3 m3.length e3,J s4,D A4 l4.length c4,D D4 m4.length e4,J s5,D A5 l5.length c5,D D5 m5.length e5,H I fi,H I mo,J sS,D AS nS cS,D DS mS dS,J sE,D AE nE cE,D DE mE dE,J sF,D AF nF cH,D DF mF dF,D YK nK cK]) (by kernel_rfl) (by exact⟨d,e.cy 28 3,e.cy 34 4,e⟩) (λaS=> ?_);generalize w1.drew=az at*
 (refine wpAnyH_take (i:=0) (v:=af #[D TA q.code.length aH,D TB q.os.length cB,H I q.ar,H I q.par,al q.nm,D SC q.c.length cc,D SA q.a.length ca,D SB q.b.length cb,D SE q.e.length ce,D PA q.p.length cp,H I q.bits,J s1,D A1 l1.length c1,D D1 m1.length e1,J s2,D A2 l2.length c2,D D2 m2.length e2,J s3,D A3 l3.length c3,D D3 m3.length e3,J s4,D A4 l4.length c4,D D4 m4.length e4,J s5,D A5 l5.length c5,D D5 m5.length e5,H I fi,H I mo,J sS,D AS nS cS,D DS mS dS,J sE,D AE nE cE,D DE mE dE,J sF,D AF nF cH,D DF mF dF,D YK nK cK]) rfl (by kernel_rfl) (by decide +kernel) (by decide +kernel) (λ_ _ _ aL=>aL) (Or.inl ⟨by rfl,λw dK=>fY (off:=0) rfl rfl hP hQ dK.2.2.2 rfl rfl⟩) (by assumption) ?_;try simp only[bc,bg])
 refine aa 1 ?_;refine aa 2 ?_;refine aa 5 ?_;refine aa 6 ?_;refine aa 9 ?_;refine aa 10 ?_
 repeat' first
  |(have aw:=dw;clear dw
    (try clear aS)
    go_simp;go_at_call 28
    with_reducible refine(dx A (by omega)).mono ?_
    rintro aR az ⟨ec,rfl,aO,j⟩;revert M R C W N X P ab Q ai A K;refine au j ?_;intro M R C W N X P ab Q ai A K;revert d e b a hF an aA aB aD aE aF aG;refine au j ?_;intro d e b a hF an aA aB aD aE aF aG;revert aI;refine cj j ?_;intro aI
    try(replace ay:=ay.up j)
    try(replace aT:=aT.up j)
    try(replace aJ:=aJ.up j)
    try(replace aQ:=aQ.up j)
    try(replace aN:=aN.up j)
    try(replace aK:=aK.up j)
    try(replace p:=p.up j)
    replace ao:=b.free;clear f;have f:=b.c5;replace F:=a.free;clear g;have g:=a.c4;clear j;obtain⟨en,er,rfl,aO,aQ⟩:=aO;obtain⟨cr,c0,cO,rfl⟩:=aO.shape;obtain⟨ct,c6,cP,rfl⟩:=aQ.shape
    try go_wp2_with fail
    refine ax aw (by exact⟨d,e.cy 28 3,e.cy 34 4,e⟩) (λaS=> ?_);clear aw bh)
  |(have aw:=dy;clear dy
    (try clear aS)
    go_simp;go_at_call 22
    with_reducible refine(fd (n:=1) (by omega) az).mono ?_
    rintro aR az ⟨ed,rfl,ay,j⟩;revert M R C W N X P ab Q ai A K;refine au j ?_;intro M R C W N X P ab Q ai A K;revert d e b a hF an aA aB aD aE aF aG;refine au j ?_;intro d e b a hF an aA aB aD aE aF aG;revert aI;refine cj j ?_;intro aI
    try(replace aO:=aO.up j)
    try(replace aT:=aT.up j)
    try(replace aJ:=aJ.up j)
    try(replace aQ:=aQ.up j)
    try(replace aN:=aN.up j)
    try(replace aK:=aK.up j)
    try(replace p:=p.up j)
    replace ao:=b.free;clear f;have f:=b.c5;replace F:=a.free;clear g;have g:=a.c4;clear j;rw[b3.out]at ay;obtain⟨el,ep,rfl,ay,aN⟩:=ay;obtain⟨d7,eA,et,rfl⟩:=ay.shape;obtain⟨d8,eB,eu,rfl⟩:=aN.shape
    try go_wp2_with fail
    refine ax aw (by exact⟨d,e.cy 28 3,e.cy 34 4,e⟩) (λaS=> ?_);clear aw bh)
  |(have aw:=dz;clear dz
    (try clear aS)
    go_simp;go_at_call 29
    with_reducible refine(row_one ((eb ay aN).fr dg.out) an dQ dr).mono ?_
    rintro aR az ⟨ee,rfl,aT,j⟩;revert M R C W N X P ab Q ai A K;refine au j ?_;intro M R C W N X P ab Q ai A K;revert d e b a hF an aA aB aD aE aF aG;refine au j ?_;intro d e b a hF an aA aB aD aE aF aG;revert aI;refine cj j ?_;intro aI
    try(replace aO:=aO.up j)
    try(replace ay:=ay.up j)
    try(replace aJ:=aJ.up j)
    try(replace aQ:=aQ.up j)
    try(replace aN:=aN.up j)
    try(replace aK:=aK.up j)
    try(replace p:=p.up j)
    replace ao:=b.free;clear f;have f:=b.c5;replace F:=a.free;clear g;have g:=a.c4;clear j;obtain⟨cn,cL,rfl⟩:=aT.form
    try go_wp2_with fail
    refine ax aw (by exact⟨d,e.cy 28 3,e.cy 34 4,e⟩) (λaS=> ?_);clear aw bh)
  |(have aw:=da;clear da
    (try clear aS)
    go_simp;go_at_call 28
    with_reducible refine(dx hF (by omega)).mono ?_
    rintro aR az ⟨ea,rfl,aJ,j⟩;revert M R C W N X P ab Q ai A K;refine au j ?_;intro M R C W N X P ab Q ai A K;revert d e b a hF an aA aB aD aE aF aG;refine au j ?_;intro d e b a hF an aA aB aD aE aF aG;revert aI;refine cj j ?_;intro aI
    try(replace aO:=aO.up j)
    try(replace ay:=ay.up j)
    try(replace aT:=aT.up j)
    try(replace aQ:=aQ.up j)
    try(replace aN:=aN.up j)
    try(replace aK:=aK.up j)
    try(replace p:=p.up j)
    replace ao:=b.free;clear f;have f:=b.c5;replace F:=a.free;clear g;have g:=a.c4;clear j;obtain⟨ek,eo,rfl,aJ,aK⟩:=aJ;obtain⟨co,cY,cM,rfl⟩:=aJ.shape;obtain⟨cq,cZ,cN,rfl⟩:=aK.shape
    try go_wp2_with fail
    refine ax aw (by exact⟨d,e.cy 28 3,e.cy 34 4,e⟩) (λaS=> ?_);clear aw bh)
  |(have aw:=ds;clear ds
    (try clear aS)
    refine fm (by rfl) ?_;refine kM (T:=97) (v:=af #[D TA q.code.length aH,D TB q.os.length cB,H I q.ar,H I q.par,al q.nm,D SC q.c.length cc,D SA q.a.length ca,D SB q.b.length cb,D SE q.e.length ce,D PA q.p.length cp,H I q.bits,J s1,D A1 l1.length c1,D D1 m1.length e1,J s2,D A2 l2.length c2,D D2 m2.length e2,J s3,D A3 l3.length c3,D D3 m3.length e3,J s4,D A4 l4.length c4,D D4 m4.length e4,J s5,D A5 l5.length c5,D D5 m5.length e5,H I fi,H I mo,J sS,D AS nS cS,D DS mS dS,J sE,D AE nE cE,D DE mE dE,J sF,D AF nF cH,D DF mF dF,D YK nK cK,D none 0 0,J (E.aB start.num),D cr c0 cO,D ct c6 cP,D cn ys.length cL,J (E.aB first.num),D co cY cM,D cq cZ cN]) (.tmp 24) (by rfl) (cs:=[D TA q.code.length aH,D TB q.os.length cB,H I q.ar,H I q.par,al q.nm,D SC q.c.length cc,D SA q.a.length ca,D SB q.b.length cb,D SE q.e.length ce,D PA q.p.length cp,H I q.bits,J s1,D A1 l1.length c1,D D1 m1.length e1,J s2,D A2 l2.length c2,D D2 m2.length e2,J s3,D A3 l3.length c3,D D3 m3.length e3,J s4,D A4 l4.length c4,D D4 m4.length e4,J s5,D A5 l5.length c5,D D5 m5.length e5,H I fi,H I mo,J sS,D AS nS cS,D DS mS dS,J sE,D AE nE cE,D DE mE dE,J sF,D AF nF cH,D DF mF dF,D YK nK cK,D none 0 0,J (E.aB start.num),D cr c0 cO,D ct c6 cP,D cn ys.length cL,J (E.aB first.num),D co cY cM,D cq cZ cN]) (by rfl) (by rfl) ?_;intro dG p aM;have dH:=e.lt;have dV:=b.lt;have db:=a.lt;have dZ:=d.size;revert M R C W N X P ab Q ai A K;refine au aM ?_;intro M R C W N X P ab Q ai A K;revert d e b a hF an;refine bO aM ?_;intro d e b a hF an
    try(replace aO:=aO.up aM)
    try(replace ay:=ay.up aM)
    try(replace aT:=aT.up aM)
    try(replace aJ:=aJ.up aM)
    try(replace aQ:=aQ.up aM)
    try(replace aN:=aN.up aM)
    try(replace aK:=aK.up aM)
    clear aM;generalize az.heap.size=aY at*;obtain⟨az,dL⟩:∃cD,cD=dG:=⟨_,rfl⟩;subst dL;clear aA aB aD aE aF aG aI;have aA:=e.k 28;have aB:=e.k 29;have aD:=e.k 30;have aE:=e.k 34;have aF:=e.k 35;have aG:=e.k 36;have aI:=e.k 37;replace ao:=b.free;clear f;have f:=b.c5;replace F:=a.free;clear g;have g:=a.c4;refine ax aw (by exact⟨d,e.cy 28 3,e.cy 34 4,e⟩) (λaS=> ?_);clear aw bh)
  |(with_reducible show b5 _ _ _ _ _ _ _ _ _ _
    first
     |refine av (i:=3) rfl (λbh dw=> ?_) ?_
     |refine av (i:=4) rfl (λbh dy=> ?_) ?_
     |refine av (i:=7) rfl (λbh dz=> ?_) ?_
     |refine av (i:=11) rfl (λbh da=> ?_) ?_
     |refine av (i:=13) rfl (λbh ds=> ?_) ?_
     |exact bm)
  |(with_reducible show bJ _ _ _ _ _ _ _ _ _
    first
     |refine ak [3] ?_
     |refine ak [4] ?_
     |refine ak [7] ?_
     |refine ak [11] ?_
     |refine ak [13] ?_
     |refine aa 8 ?_
     |refine aa 12 ?_
     |refine aa 14 ?_
     |refine aW (by decide +kernel) (aX ?_) _)
  |fail
 all_goals try clear aS
 have bX:dD w az aY [D TA q.code.length aH,D TB q.os.length cB,H I q.ar,H I q.par,al q.nm,D SC q.c.length cc,D SA q.a.length ca,D SB q.b.length cb,D SE q.e.length ce,D PA q.p.length cp,H I q.bits,J s1,D A1 l1.length c1,D D1 m1.length e1,J s2,D A2 l2.length c2,D D2 m2.length e2,J s3,D A3 l3.length c3,D D3 m3.length e3,J s4,D A4 l4.length c4,D D4 m4.length e4,J s5,D A5 l5.length c5,D D5 m5.length e5,H I fi,H I mo,J sS,D AS nS cS,D DS mS dS,J sE,D AE nE cE,D DE mE dE,J sF,D AF nF cH,D DF mF dF,D YK nK cK] 2 (Z.ik k):=dD.mk (trs:=[]) (t:=start) (y:=ys) (wa:=first) (l:=0) (ny:=ys.length) (TR:=none) (cT:=0) (by rw[aV.out];rfl) rfl rfl p (aP.nil _ _ _ _ _) ⟨eb aO aQ,A.lq⟩ aT ⟨eb aJ aK,hF.lq⟩;have cW:=p.lt;have de:Y (w.heap.size+1+1<aY):=G db;clear aO aQ ay aN aT aJ aK p e dH dV db dZ f ao g F aA aB aD aE aF aG aI;have f:=b.c5;have ao:=b.free;have g:=a.c4;have F:=a.free;have dT:=ez f;have dU:=b.fa;have dW:=ez g;have dX:=a.fa;go_wp2_with fail;clear dT dU dW dX;generalize x:ah az _=ej at*;obtain⟨aM,m⟩:=aC x;clear x;have c9:=b.lt;have dY:=a.lt;clear g;revert d b a bX f;refine b8 aM ?_;intro d b a bX f;replace ao:=b.free;have g:=a.c4;replace F:=a.free;clear aM;obtain⟨bk,bl,bn,bo⟩:=m.c4;have cx:=G b;have cz:=G a;have cv:=G m;have cC:=G d;have df:=G c9;have dc:Y (aY<az.heap.size):=G cW;clear cW b a m d f ao g F c9 dY bk bl bn bo
 go_step3
 go_wp2_with fail
 go_loopw[27] (λ_ wr=> ∃(n:Nat) (s:Z.So),Z.st k n=U s/\dD w wr aY [D TA q.code.length aH,D TB q.os.length cB,H I q.ar,H I q.par,al q.nm,D SC q.c.length cc,D SA q.a.length ca,D SB q.b.length cb,D SE q.e.length ce,D PA q.p.length cp,H I q.bits,J s1,D A1 l1.length c1,D D1 m1.length e1,J s2,D A2 l2.length c2,D D2 m2.length e2,J s3,D A3 l3.length c3,D D3 m3.length e3,J s4,D A4 l4.length c4,D D4 m4.length e4,J s5,D A5 l5.length c5,D D5 m5.length e5,H I fi,H I mo,J sS,D AS nS cS,D DS mS dS,J sE,D AE nE cE,D DE mE dE,J sF,D AF nF cH,D DF mF dF,D YK nK cK] (Z.mz n) s/\Bx 63 wr az.heap.size [H I 0,H I 0,H I 0,H I 0]/\Bx 61 wr (w.heap.size+1) [D none 0 0,J false,D none 0 0,D none 0 0,D none 0 0]/\Bx 63 wr (w.heap.size+1+1) [H I 0,H I 0,H I 0,H I 0]/\V w wr) (λ_ wr=>300-kQ wr aY)
 case atStart=>exact⟨0,_,rfl,bX,cv.out,cx.out,cz.out,cC.out⟩
 case round=>
  clear bX cv cx cz cC;obtain⟨n,s,bZ,aq,m,b,a,d⟩:=hrel;clear M R C W N X P ab Q ai A K hF an;have bi:=G (Z.kN cA.out n bZ);have cQ:=cX.out cA.out n s bZ;have ey:s.tries.length<=12:=by rw[bi.out.len];exact cQ
  have br:Z.mz n<=66000:=Z.GQ cQ;have bf:=G bZ;have bQ:Y (kQ wr aY=n):=G ((aq.tries rfl).trans bi.out.len);have ev:=dc.out;have ew:=de.out;have C:=df.out;clear bZ;have f:=b.c5;have ao:=b.free;have g:=a.c4;have F:=a.free;go_wp2_with fail;refine(CT aq (cu.out.up d) (by omega) (by omega)).mono ?_;rintro aR w1 ⟨rfl,a1⟩;clear g;revert aq m b a d f;refine bO a1 ?_;intro aq m b a d f
  replace ao:=b.free;have g:=a.c4;replace F:=a.free;clear a1
  by_cases bv:s.t=stop
  .rw[decide_eq_true bv];have bx:Y (Z.Ends k s Z.aG):=G ⟨n,bf.out,.inl ⟨by rw[aV.out];exact bv,rfl⟩⟩;clear bf bi bQ;obtain⟨TR,a2,a5,a6,B2,bw,bb,bK,cT,ba,k1,a9,a8,cy,bC,k2,bB,bA,hb,u,z,L,hw⟩:=aq;have bz:=G (And.intro (z.lq.mono br) (hw.lq.mono br));clear hw;have f:=b.c5;have ao:=b.free;have g:=a.c4;have F:=a.free;have p:Bx 97 w1 aY [D TA q.code.length aH,D TB q.os.length cB,H I q.ar,H I q.par,al q.nm,D SC q.c.length cc,D SA q.a.length ca,D SB q.b.length cb,D SE q.e.length ce,D PA q.p.length cp,H I q.bits,J s1,D A1 l1.length c1,D D1 m1.length e1,J s2,D A2 l2.length c2,D D2 m2.length e2,J s3,D A3 l3.length c3,D D3 m3.length e3,J s4,D A4 l4.length c4,D D4 m4.length e4,J s5,D A5 l5.length c5,D D5 m5.length e5,H I fi,H I mo,J sS,D AS nS cS,D DS mS dS,J sE,D AE nE cE,D DE mE dE,J sF,D AF nF cH,D DF mF dF,D YK nK cK,D TR s.tries.length cT,J bb,D a2 ba k1,D a5 a9 a8,D a6 s.y.length cy,J bK,D B2 bC k2,D bw bB bA]:=hb;clear hb;have u:dd 100000 130 w w1 (D TR s.tries.length cT) s.tries:=u;have bD:=p.k 38;have bE:=p.k 39;have bF:=p.k 40;have bH:=p.k 41;have bI:=p.k 42;have bk:=m.k 0;have bl:=m.k 1;have bn:=m.k 2;have bo:=m.k 3;go_wp2_with fail
   go_region
   clear p bD bE bF bH bI m bk bl bn bo;have f:=b.c5;have ao:=b.free;have g:=a.c4;have F:=a.free;generalize x:ag (ag (ag (ag (ag w1 _ _) _ _) _ _) _ _) _ _=dA at*;have c:=e8 b x;clear x;replace u:=u.bs c;replace z:=z.kw c.kw;replace L:=L.bs c;replace a:=a.bs c;replace b:=c.new;replace d:=d.bs c;clear c;clear f g;have f:=b.c5;have g:=a.c4;replace F:=a.free;generalize x:ag (ag (ag (ag dA _ _) _ _) _ _) _ _=cG at*;have c:=bp a x;clear x;replace u:=u.bs c;replace z:=z.kw c.kw;replace L:=L.bs c;replace b:=b.bs c;replace a:=c.new;replace d:=d.bs c;clear c;clear f g;have f:=b.c5;have g:=a.c4;revert u z L b a d f g;refine b9 (V.refl cG).drew ?_;intro u z L b a d f g
   generalize cG.drew=ef at*;go_wp2_with fail;rw[Exit.noGoto_ret];exact a4 (gl rfl rfl rfl kO kP bM bN b rfl a rfl) rfl ⟨d,λaL=>(by cases aL),λ_=>⟨_,s,Z.aG,rfl,⟨TR,a2,a5,a6,bb,cT,ba,k1,a9,a8,cy,rfl,⟨_,u⟩,z.mono (by omega),L⟩,bx.out,bz.out⟩⟩
  .rw[decide_eq_false bv];go_wp2_with fail;refine(CU aq (dp.out.up d) (by omega) (by omega)).mono ?_;rintro aR w2 ⟨rfl,a1⟩;clear g;revert aq m b a d f;refine bO a1 ?_;intro aq m b a d f
   replace ao:=b.free;have g:=a.c4;replace F:=a.free;clear a1;have bT:=G (Eb mo (mkRat (E.iv s5 (E.val l5)) (E.val m5)) s);have bt:Y (Z.may k s=Z.ho mo (mkRat (E.iv s5 (E.val l5)) (E.val m5)) s):=G (by rw[aV.out];rfl);obtain⟨cf,bP⟩:∃cd,Y (Z.ho mo (mkRat (E.iv s5 (E.val l5)) (E.val m5)) s=cd):=⟨_,G rfl⟩;rw[bP.out]at bT bt;rw[bP.out];go_wp2_with fail;refine(uF m bT.out).mono ?_;rintro aR w3 ⟨rfl,a7,B⟩;have c:=uN B m a7;replace aq:=aq.bs c (by omega) (by decide);replace b:=b.bs c (by omega);replace a:=a.bs c (by omega);replace d:=d.bs c (by omega);replace m:=a7;clear c B a7
   by_cases ar:cf=Z.aG
   rotate_left
   .have bx:Y (Z.Ends k s cf):=G ⟨n,bf.out,.inr ⟨by rw[aV.out];exact bv,by unfold Z.df;rw[bt.out,if_neg ar];exact ar,by unfold Z.df;rw[bt.out,if_neg ar]⟩⟩;rw[decide_eq_true ar];clear bf bi bQ bT bt bP;obtain⟨TR,a2,a5,a6,B2,bw,bb,bK,cT,ba,k1,a9,a8,cy,bC,k2,bB,bA,hb,u,z,L,hw⟩:=aq;have bz:=G (And.intro (z.lq.mono br) (hw.lq.mono br));clear hw;have f:=b.c5;have ao:=b.free;have g:=a.c4;have F:=a.free;have p:Bx 97 w3 aY [D TA q.code.length aH,D TB q.os.length cB,H I q.ar,H I q.par,al q.nm,D SC q.c.length cc,D SA q.a.length ca,D SB q.b.length cb,D SE q.e.length ce,D PA q.p.length cp,H I q.bits,J s1,D A1 l1.length c1,D D1 m1.length e1,J s2,D A2 l2.length c2,D D2 m2.length e2,J s3,D A3 l3.length c3,D D3 m3.length e3,J s4,D A4 l4.length c4,D D4 m4.length e4,J s5,D A5 l5.length c5,D D5 m5.length e5,H I fi,H I mo,J sS,D AS nS cS,D DS mS dS,J sE,D AE nE cE,D DE mE dE,J sF,D AF nF cH,D DF mF dF,D YK nK cK,D TR s.tries.length cT,J bb,D a2 ba k1,D a5 a9 a8,D a6 s.y.length cy,J bK,D B2 bC k2,D bw bB bA]:=hb;clear hb;have u:dd 100000 130 w w3 (D TR s.tries.length cT) s.tries:=u;have bD:=p.k 38;have bE:=p.k 39;have bF:=p.k 40;have bH:=p.k 41;have bI:=p.k 42;have bk:=m.k 0;have bl:=m.k 1;have bn:=m.k 2;have bo:=m.k 3;go_wp2_with fail
    go_region
    clear p bD bE bF bH bI m bk bl bn bo;have f:=b.c5;have ao:=b.free;have g:=a.c4;have F:=a.free;generalize x:ag (ag (ag (ag (ag w3 _ _) _ _) _ _) _ _) _ _=dB at*;have c:=e8 b x;clear x;replace u:=u.bs c;replace z:=z.kw c.kw;replace L:=L.bs c;replace a:=a.bs c;replace b:=c.new;replace d:=d.bs c;clear c;clear f g;have f:=b.c5;have g:=a.c4;replace F:=a.free;generalize x:ag (ag (ag (ag dB _ _) _ _) _ _) _ _=cI at*;have c:=bp a x;clear x;replace u:=u.bs c;replace z:=z.kw c.kw;replace L:=L.bs c;replace b:=b.bs c;replace a:=c.new;replace d:=d.bs c;clear c;clear f g;have f:=b.c5;have g:=a.c4;revert u z L b a d f g;refine b9 (V.refl cI).drew ?_;intro u z L b a d f g
    generalize cI.drew=eg at*;go_wp2_with fail;rw[Exit.noGoto_ret];exact a4 (gl rfl rfl rfl kO kP bM bN b rfl a rfl) rfl ⟨d,λaL=>(by cases aL),λ_=>⟨_,s,cf,rfl,⟨TR,a2,a5,a6,bb,cT,ba,k1,a9,a8,cy,rfl,⟨_,u⟩,z.mono (by omega),L⟩,bx.out,bz.out⟩⟩
   .rw[decide_eq_false (λaL=>aL ar)];have bR:Y (Z.may k s=Z.aG):=G (bt.out.trans ar);rw[ar]at m;have bj:Bx 63 w3 az.heap.size [H I 0,H I 0,H I 0,H I 0]:=m;clear m bT bt bP ar;go_wp2_with fail;have bL:=G (Ec k s);have b6:Y ((s.y.length:Int)=q.ar):=G (by rw[bi.out.yl];have bq:=bd.out.2.2.2.2;rw[aV.out];exact bq);have b2:=DN cw.out cV (G bd.out.1) di.out dj.out dk.out dn.out cu.out aq d (by omega) b6 (G λaR _=>bd.out.2.2.1 aR) bd.out.2.2.2.1.1 bd.out.2.2.2.1.2 br (by omega) dN (least:=(mkRat (E.iv s5 (E.val l5)) (E.val m5))) (start:=start) (first:=first) (y0:=ys);rw[<-aV.out]at b2;refine b2.mono ?_;clear b2;rintro aR w4 ⟨rfl,b7,bU,b0,bY⟩;replace bj:=bU.bx bj (by decide);replace b:=bU.bx b (by decide);replace a:=bU.bx a (by decide);clear d aq bU;obtain⟨bW,bs⟩:∃cd,Y (Z.gn k s=cd):=⟨_,G rfl⟩;rw[bs.out]at b0 bY bL;rw[bs.out];go_wp2_with fail;refine(uF bj bL.out).mono ?_;rintro aR w5 ⟨rfl,a7,B⟩;have c:=uN B bj a7;replace b:=b.bs c (by omega);replace a:=a.bs c (by omega);have d:=b7.bs c (by omega);have m:=a7
    by_cases ar:bW=Z.aG
    rotate_left
    .have aq:=(bY ar).bs c (by omega) (by decide);have bu:Y (Z.df k s=bW):=G (by unfold Z.df;rw[if_pos bR.out];exact bs.out);have bx:Y (Z.Ends k s bW):=G ⟨n,bf.out,.inr ⟨by rw[aV.out];exact bv,by rw[bu.out];exact ar,bu.out.symm⟩⟩;rw[decide_eq_true ar];clear bf bi bQ bR bs bL c B a7 bj b7 bY b0 bu b6;obtain⟨TR,a2,a5,a6,B2,bw,bb,bK,cT,ba,k1,a9,a8,cy,bC,k2,bB,bA,hb,u,z,L,hw⟩:=aq;have bz:=G (And.intro (z.lq.mono br) (hw.lq.mono br));clear hw;have f:=b.c5;have ao:=b.free;have g:=a.c4;have F:=a.free;have p:Bx 97 w5 aY [D TA q.code.length aH,D TB q.os.length cB,H I q.ar,H I q.par,al q.nm,D SC q.c.length cc,D SA q.a.length ca,D SB q.b.length cb,D SE q.e.length ce,D PA q.p.length cp,H I q.bits,J s1,D A1 l1.length c1,D D1 m1.length e1,J s2,D A2 l2.length c2,D D2 m2.length e2,J s3,D A3 l3.length c3,D D3 m3.length e3,J s4,D A4 l4.length c4,D D4 m4.length e4,J s5,D A5 l5.length c5,D D5 m5.length e5,H I fi,H I mo,J sS,D AS nS cS,D DS mS dS,J sE,D AE nE cE,D DE mE dE,J sF,D AF nF cH,D DF mF dF,D YK nK cK,D TR s.tries.length cT,J bb,D a2 ba k1,D a5 a9 a8,D a6 s.y.length cy,J bK,D B2 bC k2,D bw bB bA]:=hb;clear hb;have u:dd 100000 130 w w5 (D TR s.tries.length cT) s.tries:=u;have bD:=p.k 38;have bE:=p.k 39;have bF:=p.k 40;have bH:=p.k 41;have bI:=p.k 42;have bk:=m.k 0;have bl:=m.k 1;have bn:=m.k 2;have bo:=m.k 3;go_wp2_with fail
     go_region
     clear p bD bE bF bH bI m bk bl bn bo;have f:=b.c5;have ao:=b.free;have g:=a.c4;have F:=a.free;generalize x:ag (ag (ag (ag (ag w5 _ _) _ _) _ _) _ _) _ _=dC at*;have c:=e8 b x;clear x;replace u:=u.bs c;replace z:=z.kw c.kw;replace L:=L.bs c;replace a:=a.bs c;replace b:=c.new;replace d:=d.bs c;clear c;clear f g;have f:=b.c5;have g:=a.c4;replace F:=a.free;generalize x:ag (ag (ag (ag dC _ _) _ _) _ _) _ _=cJ at*;have c:=bp a x;clear x;replace u:=u.bs c;replace z:=z.kw c.kw;replace L:=L.bs c;replace b:=b.bs c;replace a:=c.new;replace d:=d.bs c;clear c;clear f g;have f:=b.c5;have g:=a.c4;revert u z L b a d f g;refine b9 (V.refl cJ).drew ?_;intro u z L b a d f g
     generalize cJ.drew=eh at*;go_wp2_with fail;rw[Exit.noGoto_ret];exact a4 (gl rfl rfl rfl kO kP bM bN b rfl a rfl) rfl ⟨d,λaL=>(by cases aL),λ_=>⟨_,s,bW,rfl,⟨TR,a2,a5,a6,bb,cT,ba,k1,a9,a8,cy,rfl,⟨_,u⟩,z.mono (by omega),L⟩,bx.out,bz.out⟩⟩
    .have aq:=(b0 ar).bs c (by omega) (by decide);have bu:Y (Z.df k s=Z.aG):=G (by unfold Z.df;rw[if_pos bR.out];exact bs.out.trans ar)
     have dh:Y (Z.st k (n+1)=U (Z.more k s)):=G (by
      unfold Z.st;rw[bf.out];show(if s.t=k.stop then none else if Z.df k s=Z.aG then U (Z.more k s)else none)=_;rw[if_neg (by rw[aV.out];exact bv),if_pos bu.out])
     have dt:Y (kQ w5 aY=n+1):=G ((aq.tries rfl).trans (by show(s.tries++[_]).length=_;rw[List.length_append,bi.out.len];rfl));rw[decide_eq_false (λaL=>aL ar)];rw[ar]at m;have bj:Bx 63 w5 az.heap.size [H I 0,H I 0,H I 0,H I 0]:=m;clear m a7 c B b7 bY b0 bu b6 bL bs bR ar;go_wp2_with fail
     go_roundw
     case rel=>exact⟨n+1,Z.more k s,dh.out,aq,bj,b,a,d⟩
     case measure=>have dJ:=dt.out;have bq:=bQ.out;omega
theorem eQ.weaken {wb w0 w:O}{vc va vb ve:W}{c:List ay}{a:List (List ay)}{b e:List ay}(h:eQ w0 w vc va vb ve c a b e)(u:wb.heap.size<=w0.heap.size):eQ wb w vc va vb ve c a b e:=⟨aA.weaken h.c u,aP.weaken h.a u,aA.weaken h.b u,aA.weaken h.e u⟩
theorem Ei {code:List ba}{w:O}(h:Sn dc w (D TA code.length aH) code)(k:c0 w (D TB os.length cB) os)(i:code.length<=1000)(j:os.length<=1000)(u:V wb w):aj ae 56 #[af #[D TA code.length aH,D TB os.length cB,H I ar,H I par]] w (uE code os ar par wb w):=
 (DT h k i j).mono λl m ⟨a,b,c,d,e,f,g⟩=>⟨a,b,c,d,e,f.weaken u.size,g⟩
def Ej (nm:ByteArray)(c:List ay)(a:List (List ay))(b e:List ay)(o w:O)(n:aO)(m:O):Prop:= ∃(g d f i:Option am) (k j cb l:Nat),n=aw (af #[al nm,D g c.length k,D d a.length j,D f b.length cb,D i e.length l])/\eQ o m (D g c.length k) (D d a.length j) (D f b.length cb) (D i e.length l) c a b e/\V w m
theorem Ek {nm:ByteArray}{c b e:List ay}{a:List (List ay)}{w:O}(t:eg w (D SC c.length cc) (D SA a.length ca) (D SB b.length cb) (D SE e.length ce) c a b e)(r:c.length<=1000/\a.length<=1000/\b.length<=1000/\e.length<=1000)(s:∀l∈a,l.length<=1000)(u:V wb w):aj ae 57 #[af #[al nm,D SC c.length cc,D SA a.length ca,D SB b.length cb,D SE e.length ce]] w (Ej nm c a b e wb w):=
 (DL t r s).mono λv x ⟨d,f,g,i,j,k,m,n,o,p,q⟩=>⟨d,f,g,i,j,k,m,n,o,p.weaken u.size,q⟩
theorem El (w:O):(ct 25).run ae w= .ok true w:=by kernel_rfl
theorem Em (w:O):(ci 25).run ae w= .ok 4 w:=by kernel_rfl
theorem En (w:O):(ct 29).run ae w= .ok true w:=by kernel_rfl
theorem Eo (w:O):(ci 29).run ae w= .ok 5 w:=by kernel_rfl
theorem Ep (w:O):(ct 31).run ae w= .ok true w:=by kernel_rfl
theorem Er (w:O):(ci 31).run ae w= .ok 11 w:=by kernel_rfl
theorem Es (w:O):(ct 36).run ae w= .ok true w:=by kernel_rfl
theorem Et (w:O):(ci 36).run ae w= .ok 17 w:=by kernel_rfl
structure gu (w0 w:O) (vt vo vc va vb ve vp:W) (code:List ba) (os:List Int) (c:List ay) (a:List (List ay)) (b e p:List ay):Prop where
 t:fH w0 w vt vo code os
 s:eQ w0 w vc va vb ve c a b e
 p:fF w0 w vp p
theorem gu.up {w0 w ab:O}{vt vo vc va vb ve vp:W}{code:List ba}{os:List Int}{c:List ay}{a:List (List ay)}{b e p:List ay}(h:gu w0 w vt vo vc va vb ve vp code os c a b e p)(u:V w ab):gu w0 ab vt vo vc va vb ve vp code os c a b e p:=⟨h.t.up u,h.s.up u,h.p.up u⟩
instance gu.bW {w0 w ab:O} {vt vo vc va vb ve vp:W} {code:List ba} {os:List Int} {c:List ay} {a:List (List ay)} {b e p:List ay}:Lu (V w ab) (gu w0 w vt vo vc va vb ve vp code os c a b e p) (gu w0 ab vt vo vc va vb ve vp code os c a b e p):=bu λu h=>h.up u
theorem gu.bs {T:an}{g:Nat}{w0 w ab:O}{vt vo vc va vb ve vp:W}{code:List ba}{os:List Int}{c:List ay}{a:List (List ay)}{b e p:List ay}{old new:List W}(h:gu w0 w vt vo vc va vb ve vp code os c a b e p)(x:Bs T g w ab old new)(d:(114≠T/\3≠T)/\53≠T/\44≠T:=by decide):gu w0 ab vt vo vc va vb ve vp code os c a b e p:=⟨h.t.bs x d.1,h.s.bs x d.2,h.p.bs x d.2.1⟩
structure fo (w:O) (vt vo vc va vb ve vp:W) (code:List ba) (os:List Int) (c:List ay) (a:List (List ay)) (b e p:List ay):Prop where
 t:Sn dc w vt code
 o:c0 w vo os
 s:eg w vc va vb ve c a b e
 p:Sq Rw w vp p
theorem gu.w {w0 w:O}{vt vo vc va vb ve vp:W}{code:List ba}{os:List Int}{c:List ay}{a:List (List ay)}{b e p:List ay}(h:gu w0 w vt vo vc va vb ve vp code os c a b e p):fo w vt vo vc va vb ve vp code os c a b e p:=⟨aP.sn h.t.c,h.t.o.ints,h.s.sw,aA.sq h.p⟩
theorem fo.up {w ab:O}{vt vo vc va vb ve vp:W}{code:List ba}{os:List Int}{c:List ay}{a:List (List ay)}{b e p:List ay}(h:fo w vt vo vc va vb ve vp code os c a b e p)(u:V w ab):fo ab vt vo vc va vb ve vp code os c a b e p:=⟨h.t.up (cV 0) u,h.o.up u,h.s.up u,h.p.up cG u⟩
instance fo.bW {w ab:O} {vt vo vc va vb ve vp:W} {code:List ba} {os:List Int} {c:List ay} {a:List (List ay)} {b e p:List ay}:Lu (V w ab) (fo w vt vo vc va vb ve vp code os c a b e p) (fo ab vt vo vc va vb ve vp code os c a b e p):=bu λu h=>h.up u
structure uS (code:List ba) (os:List Int) (c:List ay) (a:List (List ay)) (b e p:List ay):Prop where
 lc:code.length<=1000
 lo:os.length<=1000
 ls:c.length<=1000/\a.length<=1000/\b.length<=1000/\e.length<=1000
 la:∀l∈a,l.length<=1000
 r9:p.length<=1000
def Eu (code:List ba)(os:List Int)(u x:Int)(nm:ByteArray)(c:List ay)(a:List (List ay))(b e p:List ay)(bits:Int)(y w:O)(v:aO)(t:O):Prop:= ∃(d f j g i k l:Option am) (m n q o qb r s:Nat),v=aw (af #[D d code.length m,D f os.length n,H I u,H I x,al nm,D j c.length q,D g a.length o,D i b.length qb,D k e.length r,D l p.length s,H I bits])/\gu y t (D d code.length m) (D f os.length n) (D j c.length q) (D g a.length o) (D i b.length qb) (D k e.length r) (D l p.length s) code os c a b e p/\V w t
theorem Ev {nm:ByteArray}{c b e p:List ay}{a:List (List ay)}{code:List ba}{w:O}(h:fo w (D TA code.length aH) (D TB os.length cB) (D SC c.length cc) (D SA a.length ca) (D SB b.length cb) (D SE e.length ce) (D PA p.length cp) code os c a b e p)(Z:uS code os c a b e p)(P:V wb w):aj ae 24 #[af #[D TA code.length aH,D TB os.length cB,H I ar,H I par,al nm,D SC c.length cc,D SA a.length ca,D SB b.length cb,D SE e.length ce,D PA p.length cp,H I bits]] w (Eu code os ar par nm c a b e p bits wb w):=by
 have B:=G h;have u:=G Z;clear h Z;go_enter func24,ntmps24;go_wp2_with fail;generalize Y:ah (ah w _) _=K at*;obtain⟨g,f,d⟩:=br Y;clear Y;have m:=f.k 9;have l:=f.k 10;have aR:=P.size;revert g f d m l;refine b8 (V.refl K).drew ?_;intro g f d m l;refine aZ ?_;refine a3 (S:=λW=>V w W/\Cz W (w.heap.size) 9 [D PA p.length cp,H I bits]/\Bx 31 W (w.heap.size) [D TA code.length aH,D TB os.length cB,H I ar,H I par,al nm,D SC c.length cc,D SA a.length ca,D SB b.length cb,D SE e.length ce,D PA p.length cp,H I bits]) (by kernel_rfl) (by exact⟨g,f.cy 9 2,f⟩) (λn=> ?_);generalize K.drew=q at*;refine aa 0 ?_
 (refine wpAnyH_take (i:=1) (v:=af #[D TA code.length aH,D TB os.length cB,H I ar,H I par]) rfl (by kernel_rfl) (by decide +kernel) (by decide +kernel) (λ_ _ _ h=>h) (Or.inl ⟨by rfl,λw U=>fY (off:=0) rfl rfl El Em U.2.2 rfl rfl⟩) (by assumption) ?_;try simp only[bc,bg])
 refine aa 3 ?_
 (refine wpAnyH_take (i:=4) (v:=af #[al nm,D SC c.length cc,D SA a.length ca,D SB b.length cb,D SE e.length ce]) rfl (by kernel_rfl) (by decide +kernel) (by decide +kernel) (λ_ _ _ h=>h) (Or.inl ⟨by rfl,λw U=>fY (off:=4) rfl rfl En Eo U.2.2 rfl rfl⟩) (by assumption) ?_;try simp only[bc,bg])
 refine aa 6 ?_;refine aa 7 ?_;refine aa 9 ?_;refine aa 10 ?_
 repeat' first
  |(have j:=aD;clear aD
    (try clear n)
    go_simp;go_at_call 56
    with_reducible refine(Ei (B.out.t.up (cV 0) g) (B.out.o.up g) u.out.lc u.out.lo (P.trans g)).mono ?_
    rintro e q ⟨x,y,L,M,rfl,t,k⟩
    try(replace s:=s.up k)
    try(replace r:=r.up k)
    revert g f d m l;revert k;refine dH ?_;intro g f d m l
    try go_wp2_with fail
    refine ax j (by exact⟨g,f.cy 9 2,f⟩) (λn=> ?_);clear j A)
  |(have j:=aV;clear aV
    (try clear n)
    go_simp;go_at_call 57
    with_reducible refine(Ek (B.out.s.up g) u.out.ls u.out.la (P.trans g)).mono ?_
    rintro e q ⟨F,C,E,J,R,Q,qb,T,rfl,s,k⟩
    try(replace t:=t.up k)
    try(replace r:=r.up k)
    revert g f d m l;revert k;refine dH ?_;intro g f d m l
    try go_wp2_with fail
    refine ax j (by exact⟨g,f.cy 9 2,f⟩) (λn=> ?_);clear j A)
  |(have j:=bh;clear bh
    (try clear n)
    go_simp;go_at_call 27
    with_reducible refine(kL (B.out.p.up cG g) u.out.r9 (P.trans g)).mono ?_
    rintro e q ⟨z,N,rfl,r,k⟩
    try(replace t:=t.up k)
    try(replace s:=s.up k)
    revert g f d m l;revert k;refine dH ?_;intro g f d m l
    try go_wp2_with fail
    refine ax j (by exact⟨g,f.cy 9 2,f⟩) (λn=> ?_);clear j A)
  |(have j:=X;clear X
    (try clear n)
    have ag:=d.k 0;have ai:=d.k 1;have ao:=d.k 2;have aq:=d.k 3;have au:=d.k 4;have aw:=d.k 5;have az:=d.k 6;have aA:=d.k 7;have aB:=d.k 8;have aC:=d.k 9;have an:=d.k 10;have aE:=d.free 0;have aF:=d.free 1;have aI:=d.free 2;have aJ:=d.free 3;have aK:=d.free 4;have aL:=d.free 5;have aM:=d.free 6;have aN:=d.free 7;have aO:=d.free 8;have aP:=d.free 9;have aG:=d.free 10;go_simp;clear ag ai ao aq au aw az aA aB aC an aE aF aI aJ aK aL aM aN aO aP aG;have o:Bs 49 (w.heap.size+1) q ((((((((((((q).setCell ⟨w.heap.size+1,0,none⟩ (D x code.length L)).setCell ⟨w.heap.size+1,1,none⟩ (D y os.length M)).setCell ⟨w.heap.size+1,2,none⟩ (H I ar)).setCell ⟨w.heap.size+1,3,none⟩ (H I par)).setCell ⟨w.heap.size+1,4,none⟩ (al nm)).setCell ⟨w.heap.size+1,5,none⟩ (D F c.length R)).setCell ⟨w.heap.size+1,6,none⟩ (D C a.length Q)).setCell ⟨w.heap.size+1,7,none⟩ (D E b.length qb)).setCell ⟨w.heap.size+1,8,none⟩ (D J e.length T)).setCell ⟨w.heap.size+1,9,none⟩ (D z p.length N)).setCell ⟨w.heap.size+1,10,none⟩ (H I bits)) [D none 0 0,D none 0 0,H I 0,H I 0,al ⟨#[]⟩,D none 0 0,D none 0 0,D none 0 0,D none 0 0,D none 0 0,H I 0] [D x code.length L,D y os.length M,H I ar,H I par,al nm,D F c.length R,D C a.length Q,D E b.length qb,D J e.length T,D z p.length N,H I bits]:=dK [D x code.length L,D y os.length M,H I ar,H I par,al nm,D F c.length R,D C a.length Q,D E b.length qb,D J e.length T,D z p.length N,H I bits] 0 d rfl (Nat.le_of_ble_eq_true rfl)
    try(replace t:=t.bs o (by decide))
    try(replace s:=s.bs o (by decide))
    try(replace r:=r.bs o (by decide))
    replace f:=f.bs o (by omega);replace d:=o.new;replace g:=g.bs o (by omega);clear o;generalize(((((((((((q).setCell ⟨w.heap.size+1,0,none⟩ (D x code.length L)).setCell ⟨w.heap.size+1,1,none⟩ (D y os.length M)).setCell ⟨w.heap.size+1,2,none⟩ (H I ar)).setCell ⟨w.heap.size+1,3,none⟩ (H I par)).setCell ⟨w.heap.size+1,4,none⟩ (al nm)).setCell ⟨w.heap.size+1,5,none⟩ (D F c.length R)).setCell ⟨w.heap.size+1,6,none⟩ (D C a.length Q)).setCell ⟨w.heap.size+1,7,none⟩ (D E b.length qb)).setCell ⟨w.heap.size+1,8,none⟩ (D J e.length T)).setCell ⟨w.heap.size+1,9,none⟩ (D z p.length N)).setCell ⟨w.heap.size+1,10,none⟩ (H I bits)=ab at*;obtain⟨q,aQ⟩:∃K,K=ab:=⟨_,rfl⟩;subst aQ;clear m l;have m:=f.k 9;have l:=f.k 10;refine ax j (by exact⟨g,f.cy 9 2,f⟩) (λn=> ?_);clear j A)
  |(with_reducible show b5 _ _ _ _ _ _ _ _ _ _
    first
     |refine av (i:=2) rfl (λA aD=> ?_) ?_
     |refine av (i:=5) rfl (λA aV=> ?_) ?_
     |refine av (i:=8) rfl (λA bh=> ?_) ?_
     |refine av (i:=12) rfl (λA X=> ?_) ?_
     |exact bm)
  |(with_reducible show bJ _ _ _ _ _ _ _ _ _
    first
     |refine ak [2] ?_
     |refine ak [5] ?_
     |refine ak [8] ?_
     |refine ak [12] ?_
     |refine aa 11 ?_
     |refine aW (by decide +kernel) (aX ?_) _)
  |fail
 all_goals try clear n
 go_wp2_with fail;exact a4 (cl rfl rfl ip iw d rfl) rfl ⟨_,_,_,_,_,_,_,_,_,_,_,_,_,_,rfl,⟨t,s,r⟩,g⟩
structure Td where
 code:List ba
 os:List Int
 ar:Int
 par:Int
 nm:ByteArray
 c:List ay
 a:List (List ay)
 b:List ay
 e:List ay
 p:List ay
 bits:Int
 r1:ay
 r2:ay
 r3:ay
 r4:ay
 r5:ay
 fi:Int
 mo:Int
 rS:ay
 rE:ay
 rF:ay
 y:List ay
def R2 (w:O)(a ai:Option am)(c d:Nat)(r:ay):Prop:=Ws w (D a r.2.1.length c) r.2.1/\Ws w (D ai r.2.2.length d) r.2.2
theorem R2.up {w ab:O}{A ai:Option am}{c d:Nat}{r:ay}(h:R2 w A ai c d r)(u:V w ab):R2 ab A ai c d r:=⟨h.1.up u,h.2.up u⟩
instance R2.bW {w ab:O} {A ai:Option am} {c d:Nat} {r:ay}:Lu (V w ab) (R2 w A ai c d r) (R2 ab A ai c d r):=bu λu h=>h.up u
theorem R2.kw {w ab:O}{A ai:Option am}{c d:Nat}{r:ay}(h:R2 w A ai c d r)(k:Kw w ab):R2 ab A ai c d r:=⟨h.1.kw k,h.2.kw k⟩
instance R2.jC {w ab:O} {A ai:Option am} {c d:Nat} {r:ay}:Lu (Kw w ab) (R2 w A ai c d r) (R2 ab A ai c d r):=bu λu h=>h.kw u
def dU (w:O)(xs:List W)(z:Td):Prop:= ∃(x y u s t v r a b c d e j k l m n i q f o g p A:Option am) (B C M L cb N P c1 c2 c3 c4 c5 T U V X Y K S E Q F R G:Nat),xs=[D x z.code.length B,D y z.os.length C,H I z.ar,H I z.par,al z.nm,D u z.c.length M,D s z.a.length L,D t z.b.length cb,D v z.e.length N,D r z.p.length P,H I z.bits,J z.r1.1,D a z.r1.2.1.length c1,D j z.r1.2.2.length T,J z.r2.1,D b z.r2.2.1.length c2,D k z.r2.2.2.length U,J z.r3.1,D c z.r3.2.1.length c3,D l z.r3.2.2.length V,J z.r4.1,D d z.r4.2.1.length c4,D m z.r4.2.2.length X,J z.r5.1,D e z.r5.2.1.length c5,D n z.r5.2.2.length Y,H I z.fi,H I z.mo,J z.rS.1,D i z.rS.2.1.length K,D q z.rS.2.2.length S,J z.rE.1,D f z.rE.2.1.length E,D o z.rE.2.2.length Q,J z.rF.1,D g z.rF.2.1.length F,D p z.rF.2.2.length R,D A z.y.length G]/\
 fo w (D x z.code.length B) (D y z.os.length C) (D u z.c.length M) (D s z.a.length L) (D t z.b.length cb) (D v z.e.length N) (D r z.p.length P) z.code z.os z.c z.a z.b z.e z.p/\
 (R2 w a j c1 T z.r1/\R2 w b k c2 U z.r2/\R2 w c l c3 V z.r3/\R2 w d m c4 X z.r4/\R2 w e n c5 Y z.r5)/\(R2 w i q K S z.rS/\R2 w f o E Q z.rE/\R2 w g p F R z.rF)/\Sq Rw w (D A z.y.length G) z.y
theorem dU.up {w ab:O}{xs:List W}{z:Td}(h:dU w xs z)(u:V w ab):dU ab xs z:=by
 obtain⟨y,A,v,s,t,x,r,a,b,c,d,f,j,k,l,m,n,AS,q,g,o,i,p,B,C,D,I,H,cb,J,K,c1,c2,c3,c4,c5,P,Q,R,S,T,cS,N,E,L,F,M,G,e,af,⟨h1,h2,U,X,Y⟩,⟨Z,aa,ae⟩,ag⟩:=h;exact⟨y,A,v,s,t,x,r,a,b,c,d,f,j,k,l,m,n,AS,q,g,o,i,p,B,C,D,I,H,cb,J,K,c1,c2,c3,c4,c5,P,Q,R,S,T,cS,N,E,L,F,M,G,e,af.up u,⟨h1.up u,h2.up u,U.up u,X.up u,Y.up u⟩,⟨Z.up u,aa.up u,ae.up u⟩,ag.up cG u⟩
instance dU.bW {w ab:O} {xs:List W} {z:Td}:Lu (V w ab) (dU w xs z) (dU ab xs z):=bu λu h=>h.up u
theorem dU.len {w:O}{z:Td}(h:dU w xs z):xs.length=38/\xs.all (·.oneCell')=true:=by
 obtain⟨v,x,t,r,s,u,q,a,b,c,d,e,i,j,k,l,m,AS,p,f,n,g,o,y,A,B,G,F,cb,H,I,c1,c2,c3,c4,c5,M,N,P,Q,R,cS,L,C,J,D,K,E,rfl,_⟩:=h;exact⟨rfl,rfl⟩
structure uT (z:Td):Prop where
 p:uS z.code z.os z.c z.a z.b z.e z.p
 y:z.y.length<=1000
theorem Ew {z:Td}{w:O}(h:dU w xs z)(aY:uT z):aj ae 6 #[af xs.toArray] w λe q=> ∃a2,e=aw (af a2.toArray)/\dU q a2 z/\V w q:=by
 obtain⟨aB,aC,ay,ar,au,az,ao,r,s,t,u,x,C,E,F,K,L,B,P,y,M,A,N,aD,aE,aF,aI,aH,cb,aJ,aK,c1,c2,c3,c4,c5,ag,ai,am,an,aq,X,ab,R,Y,T,Z,aG,rfl,aU,⟨aL,aM,aN,aO,aP⟩,⟨aQ,aR,aS⟩,a1⟩:=h;have a7:=G aU;have a9:=G a1;have U:=G aY;have a8:=G (show(R2 w r C c1 ag z.r1/\R2 w s E c2 ai z.r2/\R2 w t F c3 am z.r3/\R2 w u K c4 an z.r4/\R2 w x L c5 aq z.r5)/\(R2 w B P X ab z.rS/\R2 w y M R Y z.rE/\R2 w A N T Z z.rF)from⟨⟨aL,aM,aN,aO,aP⟩,⟨aQ,aR,aS⟩⟩);clear aU a1 aY aL aM aN aO aP aQ aR aS;dsimp only;go_enter func6,ntmps6;go_wp2_with fail;generalize aT:ah (ah w _) _=Q at*;obtain⟨a,b,f⟩:=br aT;clear aT;have g:=b.k 37;revert a b f g;refine bf (V.refl Q).drew ?_;intro a b f g;refine aZ ?_;refine a3 (S:=λq=>V w q/\Cz q (w.heap.size) 37 [D aD z.y.length aG]/\Bx 38 q (w.heap.size) [D aB z.code.length aE,D aC z.os.length aF,H I z.ar,H I z.par,al z.nm,D ay z.c.length aI,D ar z.a.length aH,D au z.b.length cb,D az z.e.length aJ,D ao z.p.length aK,H I z.bits,J z.r1.1,D r z.r1.2.1.length c1,D C z.r1.2.2.length ag,J z.r2.1,D s z.r2.2.1.length c2,D E z.r2.2.2.length ai,J z.r3.1,D t z.r3.2.1.length c3,D F z.r3.2.2.length am,J z.r4.1,D u z.r4.2.1.length c4,D K z.r4.2.2.length an,J z.r5.1,D x z.r5.2.1.length c5,D L z.r5.2.2.length aq,H I z.fi,H I z.mo,J z.rS.1,D B z.rS.2.1.length X,D P z.rS.2.2.length ab,J z.rE.1,D y z.rE.2.1.length R,D M z.rE.2.2.length Y,J z.rF.1,D A z.rF.2.1.length T,D N z.rF.2.2.length Z,D aD z.y.length aG]) (by kernel_rfl) (by exact⟨a,b.cy 37 1,b⟩) (λj=> ?_);generalize Q.drew=o at*;refine aa 0 ?_
 (refine wpAnyH_take (i:=1) (v:=af #[D aB z.code.length aE,D aC z.os.length aF,H I z.ar,H I z.par,al z.nm,D ay z.c.length aI,D ar z.a.length aH,D au z.b.length cb,D az z.e.length aJ,D ao z.p.length aK,H I z.bits]) rfl (by kernel_rfl) (by decide +kernel) (by decide +kernel) (λ_ _ _ h=>h) (Or.inl ⟨by rfl,λw n=>fY (off:=0) rfl rfl Ep Er n.2.2 rfl rfl⟩) (by assumption) ?_;try simp only[bc,bg])
 refine aa 3 ?_
 (refine wpAnyH_take (i:=4) (v:=af #[J z.r1.1,D r z.r1.2.1.length c1,D C z.r1.2.2.length ag,J z.r2.1,D s z.r2.2.1.length c2,D E z.r2.2.2.length ai,J z.r3.1,D t z.r3.2.1.length c3,D F z.r3.2.2.length am,J z.r4.1,D u z.r4.2.1.length c4,D K z.r4.2.2.length an,J z.r5.1,D x z.r5.2.1.length c5,D L z.r5.2.2.length aq,H I z.fi,H I z.mo]) rfl (by kernel_rfl) (by decide +kernel) (by decide +kernel) (λ_ _ _ h=>h) (Or.inl ⟨by rfl,λw n=>fY (off:=11) rfl rfl Es Et n.2.2 rfl rfl⟩) (by assumption) ?_;try simp only[bc,bg])
 refine aa 6 ?_
 (refine wpAnyH_take (i:=7) (v:=af #[J z.rS.1,D B z.rS.2.1.length X,D P z.rS.2.2.length ab]) rfl (by kernel_rfl) (by decide +kernel) (by decide +kernel) (λ_ _ _ h=>h) (Or.inl ⟨by rfl,λw n=>fY (off:=28) rfl rfl mj ml n.2.2 rfl rfl⟩) (by assumption) ?_;try simp only[bc,bg])
 refine aa 9 ?_
 (refine wpAnyH_take (i:=10) (v:=af #[J z.rE.1,D y z.rE.2.1.length R,D M z.rE.2.2.length Y]) rfl (by kernel_rfl) (by decide +kernel) (by decide +kernel) (λ_ _ _ h=>h) (Or.inl ⟨by rfl,λw n=>fY (off:=31) rfl rfl mj ml n.2.2 rfl rfl⟩) (by assumption) ?_;try simp only[bc,bg])
 refine aa 12 ?_
 (refine wpAnyH_take (i:=13) (v:=af #[J z.rF.1,D A z.rF.2.1.length T,D N z.rF.2.2.length Z]) rfl (by kernel_rfl) (by decide +kernel) (by decide +kernel) (λ_ _ _ h=>h) (Or.inl ⟨by rfl,λw n=>fY (off:=34) rfl rfl mj ml n.2.2 rfl rfl⟩) (by assumption) ?_;try simp only[bc,bg])
 refine aa 15 ?_;refine aa 16 ?_
 repeat' first
  |(have d:=bB;clear bB
    (try clear j)
    go_simp;go_at_call 24
    with_reducible refine(Ev (a7.out.up a) U.out.p a).mono ?_
    rintro e o ⟨a5,a6,bd,ba,bb,bj,bk,bn,bo,bC,bA,qb,bD,bE,rfl,k,c⟩
    try(replace l:=l.up c)
    revert a b f g;revert c;refine dW ?_;intro a b f g
    try go_wp2_with fail
    refine ax d (by exact⟨a,b.cy 37 1,b⟩) (λj=> ?_);clear d m)
  |(have d:=bK;clear bK
    (try clear j)
    go_simp;go_at_call 25
    with_reducible refine(Eg).mono ?_
    rintro e o ⟨rfl,c⟩
    try(replace k:=k.up c)
    try(replace l:=l.up c)
    revert a b f g;revert c;refine dW ?_;intro a b f g
    try go_wp2_with fail
    refine ax d (by exact⟨a,b.cy 37 1,b⟩) (λj=> ?_);clear d m)
  |(have d:=bP;clear bP
    (try clear j)
    go_simp;go_at_call 26
    with_reducible refine(nn).mono ?_
    rintro e o ⟨rfl,c⟩
    try(replace k:=k.up c)
    try(replace l:=l.up c)
    revert a b f g;revert c;refine dW ?_;intro a b f g
    try go_wp2_with fail
    refine ax d (by exact⟨a,b.cy 37 1,b⟩) (λj=> ?_);clear d m)
  |(have d:=aV;clear aV
    (try clear j)
    go_simp;go_at_call 26
    with_reducible refine(nn).mono ?_
    rintro e o ⟨rfl,c⟩
    try(replace k:=k.up c)
    try(replace l:=l.up c)
    revert a b f g;revert c;refine dW ?_;intro a b f g
    try go_wp2_with fail
    refine ax d (by exact⟨a,b.cy 37 1,b⟩) (λj=> ?_);clear d m)
  |(have d:=bh;clear bh
    (try clear j)
    go_simp;go_at_call 26
    with_reducible refine(nn).mono ?_
    rintro e o ⟨rfl,c⟩
    try(replace k:=k.up c)
    try(replace l:=l.up c)
    revert a b f g;revert c;refine dW ?_;intro a b f g
    try go_wp2_with fail
    refine ax d (by exact⟨a,b.cy 37 1,b⟩) (λj=> ?_);clear d m)
  |(have d:=bi;clear bi
    (try clear j)
    go_simp;go_at_call 27
    with_reducible refine(kL (a9.out.up cG a) U.out.y a).mono ?_
    rintro e o ⟨bF,bG,rfl,l,c⟩
    try(replace k:=k.up c)
    revert a b f g;revert c;refine dW ?_;intro a b f g
    try go_wp2_with fail
    refine ax d (by exact⟨a,b.cy 37 1,b⟩) (λj=> ?_);clear d m)
  |(have d:=bq;clear bq
    (try clear j)
    refine fm (by rfl) ?_;refine nu (S:=57) (.tmp 2) (.tmp 21) (by rfl) (by rfl) (by rfl) f (by kernel_rfl) (by rfl) (by rfl) (by rfl) ?_;intro bl p;replace k:=k.bs p (by decide);replace l:=l.bs p (by decide);replace b:=b.bs p (by omega);replace f:=p.new;replace a:=a.bs p (by omega);clear p;obtain⟨o,bp⟩:∃Q,Q=bl:=⟨_,rfl⟩;subst bp;clear g;have g:=b.k 37;refine ax d (by exact⟨a,b.cy 37 1,b⟩) (λj=> ?_);clear d m)
  |(with_reducible show b5 _ _ _ _ _ _ _ _ _ _
    first
     |refine av (i:=2) rfl (λm bB=> ?_) ?_
     |refine av (i:=5) rfl (λm bK=> ?_) ?_
     |refine av (i:=8) rfl (λm bP=> ?_) ?_
     |refine av (i:=11) rfl (λm aV=> ?_) ?_
     |refine av (i:=14) rfl (λm bh=> ?_) ?_
     |refine av (i:=17) rfl (λm bi=> ?_) ?_
     |refine av (i:=19) rfl (λm bq=> ?_) ?_
     |exact bm)
  |(with_reducible show bJ _ _ _ _ _ _ _ _ _
    first
     |refine ak [2] ?_
     |refine ak [5] ?_
     |refine ak [8] ?_
     |refine ak [11] ?_
     |refine ak [14] ?_
     |refine ak [17] ?_
     |refine ak [19] ?_
     |refine aa 18 ?_
     |refine aW (by decide +kernel) (aX ?_) _)
  |fail
 all_goals try clear j
 go_wp2_with fail;obtain⟨⟨q1,bs,bt,bu,bv⟩,⟨bw,bx,bz⟩⟩:=a8.out;exact a4 (cl rfl rfl hP hQ f rfl) rfl ⟨_,rfl,⟨a5,a6,bd,ba,bb,bj,bk,r,s,t,u,x,C,E,F,K,L,B,P,y,M,A,N,_,bn,bo,bC,bA,qb,bD,bE,c1,c2,c3,c4,c5,ag,ai,am,an,aq,X,ab,R,Y,T,Z,_,rfl,k.w,⟨q1.up a,bs.up a,bt.up a,bu.up a,bv.up a⟩,⟨bw.up a,bx.up a,bz.up a⟩,aA.sq l⟩,a⟩
open Go.RowKit Go.ChangeShapes Go.WideShapes Go.Deep
theorem nv:Tryz.prog.cellsOf 3=1:=by kernel_rfl
theorem Ex {enc:an×W->cD}{x:DataW cD×List MemPlace}(h:b7 enc ae aD 0 (λ_=>true) true cu 23 [v]=U x):∃l,c0 aD v l:=by
 rcases open_slice1 underlying23 nv h with⟨d,_⟩|⟨a,len,L,z,n,c,ai,K,d,_,G,J,t,_,y⟩
 .simp at d;subst d;exact⟨[],Sn.nil eX aD⟩
 .simp at d t;subst d t
  have E:∀b,b<z-> ∃n:Int,c b=H I n:=λb F=>by
   obtain⟨A,j,_⟩:=DataW.trod_int underlying3 (y b F).2;simp at j;exact⟨A,j⟩
  obtain⟨i,C⟩:=choose_lt (α:=Int) (p:=λb n=>c b=H I n) E;refine⟨(List.range len).map i,U a,z,(List.range len).map λb=>[c b],by simp,by simpa using G,J,⟨by simp,λN x q m o=> ?_⟩,?_⟩
  .simp only[List.getElem?_map,Option.map_eq_some_iff]at m o;obtain⟨k,e,rfl⟩:=m;obtain⟨P,s,rfl⟩:=o;rw[e]at s;cases s;obtain⟨g,f⟩:=List.getElem?_eq_some_iff.1 e;simp at g f;show[c k]=[H I (i k)];rw[C k (by omega)]
  .have B:((List.range len).map λb=>[c b]).flatten=(List.range len).map c:=by
    generalize List.range len=r
    induction r with
    |nil=>rfl
    |cons M r ih=>simp[ih]
   rw[B];refine kk (n:=len) (by simp) ?_;intro b Q u;simp only[List.getElem?_map,Option.map_eq_some_iff]at u;obtain⟨k,e,rfl⟩:=u;obtain⟨g,f⟩:=List.getElem?_eq_some_iff.1 e;simp at g f;subst f;exact(y b (by omega)).1
theorem Ey {enc:an×W->cD}{x:DataW cD×List MemPlace}(h:b7 enc ae aD 0 (λ_=>true) true cu 27 [v]=U x):∃B,cU Rw aD v B:=by
 rcases open_slice1 underlying27 zM h with⟨c,_⟩|⟨a,len,F,r,n,i,ai,E,c,_,z,A,o,_,q⟩
 .simp at c;subst c;exact⟨[],none,0,[],rfl,by simp,by simp,rfl,b2.nil _ _,by simp⟩
 .simp at c o;subst c o;have u:∀b,b<r-> ∃g,Sq Rw aD (i b) g:=λb y=>jp (q b y).2
  obtain⟨s,t⟩:=choose_lt (α:=List ay) (p:=λb g=>Sq Rw aD (i b) g) u;refine⟨(List.range len).map s,U a,r,(List.range len).map i,by simp,by simpa using z,A,by simp,?_,?_⟩
  .refine kk (n:=len) (by simp) ?_;intro b C d;simp only[List.getElem?_map,Option.map_eq_some_iff]at d;obtain⟨k,e,rfl⟩:=d;obtain⟨j,f⟩:=List.getElem?_eq_some_iff.1 e;simp at j f;subst f;exact(q b (by omega)).1
  .intro b C g d m;simp only[List.getElem?_map,Option.map_eq_some_iff]at d m;obtain⟨k,e,rfl⟩:=d;obtain⟨G,l,rfl⟩:=m;rw[e]at l;cases l;obtain⟨j,f⟩:=List.getElem?_eq_some_iff.1 e;simp at j f;exact t k (by omega)
theorem iy {cD:Type}{enc:an×W->cD}{aD:O}{cu:Nat}{cs:List W}{x:DataW cD×List MemPlace}(h:b7 enc ae aD 0 (λ_=>true) true cu 34 cs=U x)(f:cs.length=3):∃(r:ay) (a ai:Option am) (c d:Nat),cs=[J r.1,D a r.2.1.length c,D ai r.2.2.length d]/\R2 aD a ai c d r:=by
 match cs,f with
 |[m,A,C],_=>
  obtain⟨j,a,ai,g,i,c,d,rfl,rfl,rfl,b,e⟩:=sk h;exact⟨(j,g,i),a,ai,c,d,rfl,b,e⟩
theorem kR {enc:an×W->cD}{x:DataW cD×List MemPlace}(h:b7 enc ae aD 0 (λ_=>true) true cu 3 [v]=U x):∃n:Int,v=H I n/\db n:=by
 obtain⟨b,a,_,c⟩:=DataW.trod_int underlying3 h;simp at a;exact⟨b,a,bounds_i64 c⟩
theorem i7:Tryz.prog.cellsOf 22=1/\Tryz.prog.cellsOf 23=1/\Tryz.prog.cellsOf 9=1/\Tryz.prog.cellsOf 26=1/\Tryz.prog.cellsOf 27=1/\Tryz.prog.cellsOf 3=1:=⟨by kernel_rfl,by kernel_rfl,by kernel_rfl,by kernel_rfl,by kernel_rfl,by kernel_rfl⟩
theorem kS:Tryz.prog.cellsOf 25=4/\Tryz.prog.cellsOf 29=5/\Tryz.prog.cellsOf 31=11/\Tryz.prog.cellsOf 36=17/\Tryz.prog.cellsOf 38=38:=⟨by kernel_rfl,by kernel_rfl,by kernel_rfl,by kernel_rfl,by kernel_rfl⟩
theorem Ez {cD:Type}{enc:an×W->cD}{aD:O}{cu:Nat}{cs:List W}{x:DataW cD×List MemPlace}(h:b7 enc ae aD 0 (λ_=>true) true cu 25 cs=U x)(s:cs.length=4):∃(code:List ba) (os:List Int) (f j:Int) (b c:Option am) (d e:Nat),cs=[D b code.length d,D c os.length e,H I f,H I j]/\Sn dc aD (D b code.length d) code/\c0 aD (D c os.length e) os/\db f/\db j:=by
 match cs,s with
 |[m,A,C,F],_=>
  obtain⟨a,i,_,_,v,u,g⟩:=DataW.trod_struct underlying25 h;have y:a.length=4:=u;have k:b7 enc ae aD 0 (λ_=>true) true i 22 (([m,A,C,F].drop 0).take (Tryz.prog.cellsOf 22))=a[0]? :=g 0 _ rfl;have l:b7 enc ae aD 0 (λ_=>true) true i 23 (([m,A,C,F].drop 1).take (Tryz.prog.cellsOf 23))=a[1]? :=g 1 _ rfl;have n:b7 enc ae aD 0 (λ_=>true) true i 3 (([m,A,C,F].drop 2).take (Tryz.prog.cellsOf 3))=a[2]? :=g 2 _ rfl;have o:b7 enc ae aD 0 (λ_=>true) true i 3 (([m,A,C,F].drop 3).take (Tryz.prog.cellsOf 3))=a[3]? :=g 3 _ rfl;rw[i7.1,aT (by omega)]at k;rw[i7.2.1,aT (by omega)]at l;rw[nv,aT (by omega)]at n o;obtain⟨code,p⟩:=Af k;obtain⟨os,q⟩:=Ex l;obtain⟨f,rfl,r⟩:=kR n;obtain⟨j,rfl,t⟩:=kR o;obtain⟨b,d,rfl⟩:=p.form;obtain⟨c,e,rfl⟩:=q.form;exact⟨code,os,f,j,b,c,d,e,rfl,p,q,r,t⟩
theorem EA {cD:Type}{enc:an×W->cD}{aD:O}{cu:Nat}{cs:List W}{x:DataW cD×List MemPlace}(h:b7 enc ae aD 0 (λ_=>true) true cu 29 cs=U x)(z:cs.length=5):∃(nm:ByteArray) (c b e:List ay) (a:List (List ay)) (j SA i k:Option am) (n l cb o:Nat),cs=[al nm,D j c.length n,D SA a.length l,D i b.length cb,D k e.length o]/\eg aD (D j c.length n) (D SA a.length l) (D i b.length cb) (D k e.length o) c a b e:=by
 match cs,z with
 |[m,A,C,F,K],_=>
  obtain⟨d,g,_,_,G,B,f⟩:=DataW.trod_struct underlying29 h;have I:d.length=5:=B;have q:b7 enc ae aD 0 (λ_=>true) true g 9 (([m,A,C,F,K].drop 0).take (Tryz.prog.cellsOf 9))=d[0]? :=f 0 _ rfl;have r:b7 enc ae aD 0 (λ_=>true) true g 26 (([m,A,C,F,K].drop 1).take (Tryz.prog.cellsOf 26))=d[1]? :=f 1 _ rfl;have s:b7 enc ae aD 0 (λ_=>true) true g 27 (([m,A,C,F,K].drop 2).take (Tryz.prog.cellsOf 27))=d[2]? :=f 2 _ rfl;have t:b7 enc ae aD 0 (λ_=>true) true g 26 (([m,A,C,F,K].drop 3).take (Tryz.prog.cellsOf 26))=d[3]? :=f 3 _ rfl;have u:b7 enc ae aD 0 (λ_=>true) true g 26 (([m,A,C,F,K].drop 4).take (Tryz.prog.cellsOf 26))=d[4]? :=f 4 _ rfl;rw[i7.2.2.1,aT (by omega)]at q;rw[i7.2.2.2.1,aT (by omega)]at r t u;rw[i7.2.2.2.2.1,aT (by omega)]at s;obtain⟨E,p,_⟩:=DataW.trod_string underlying9 q;simp at p;subst p;obtain⟨c,v⟩:=jp r;obtain⟨a,ha⟩:=Ey s;obtain⟨b,hb⟩:=jp t;obtain⟨e,y⟩:=jp u;obtain⟨j,n,rfl⟩:=v.form;obtain⟨SA,l,rfl⟩:=ha.form;obtain⟨i,cb,rfl⟩:=hb.form;obtain⟨k,o,rfl⟩:=y.form;exact⟨E,c,b,e,a,j,SA,i,k,n,l,cb,o,rfl,⟨v,ha,hb,y⟩⟩
theorem EB {cD:Type}{enc:an×W->cD}{aD:O}{cu:Nat}{cs:List W}{x:DataW cD×List MemPlace}(h:b7 enc ae aD 0 (λ_=>true) true cu 31 cs=U x)(Y:cs.length=11):∃(nm:ByteArray) (c b e p:List ay) (a:List (List ay)) (code:List ba) (os:List Int) (t y bits:Int) (k l i SA g j f:Option am) (m n q o cb r s:Nat),cs=[D k code.length m,D l os.length n,H I t,H I y,al nm,D i c.length q,D SA a.length o,D g b.length cb,D j e.length r,D f p.length s,H I bits]/\fo aD (D k code.length m) (D l os.length n) (D i c.length q) (D SA a.length o) (D g b.length cb) (D j e.length r) (D f p.length s) code os c a b e p/\db t/\db y/\db bits:=by
 match cs,Y with
 |[A,C,K,M,N,Q,R,X,aH,aV,F],_=>
  obtain⟨d,v,_,_,ag,af,u⟩:=DataW.trod_struct underlying31 h;have ah:d.length=4:=af;have E:b7 enc ae aD 0 (λ_=>true) true v 25 (([A,C,K,M,N,Q,R,X,aH,aV,F].drop 0).take (Tryz.prog.cellsOf 25))=d[0]? :=u 0 _ rfl;have G:b7 enc ae aD 0 (λ_=>true) true v 29 (([A,C,K,M,N,Q,R,X,aH,aV,F].drop 4).take (Tryz.prog.cellsOf 29))=d[1]? :=u 1 _ rfl;have J:b7 enc ae aD 0 (λ_=>true) true v 26 (([A,C,K,M,N,Q,R,X,aH,aV,F].drop 9).take (Tryz.prog.cellsOf 26))=d[2]? :=u 2 _ rfl;have L:b7 enc ae aD 0 (λ_=>true) true v 3 (([A,C,K,M,N,Q,R,X,aH,aV,F].drop 10).take (Tryz.prog.cellsOf 3))=d[3]? :=u 3 _ rfl;rw[kS.1,aT (by omega)]at E;rw[kS.2.1,aT (by omega)]at G;rw[i7.2.2.2.1,aT (by omega)]at J;rw[nv,aT (by omega)]at L;obtain⟨code,os,t,y,k,l,m,n,z,T,Z,V,aa⟩:=Ez E rfl;obtain⟨nm,c,b,e,a,i,SA,g,j,q,o,cb,r,B,ab⟩:=EA G rfl;obtain⟨p,P⟩:=jp J;obtain⟨bits,S,hb⟩:=kR L;obtain⟨f,s,rfl⟩:=P.form;simp at z B;obtain⟨rfl,rfl,rfl,rfl⟩:=z;obtain⟨rfl,rfl,rfl,rfl,rfl⟩:=B;subst S;exact⟨nm,c,b,e,p,a,code,os,t,y,bits,k,l,i,SA,g,j,f,m,n,q,o,cb,r,s,rfl,⟨T,Z,ab,P⟩,V,aa,hb⟩
theorem EC {cD:Type}{enc:an×W->cD}{aD:O}{cu:Nat}{cs:List W}{x:DataW cD×List MemPlace}(h:b7 enc ae aD 0 (λ_=>true) true cu 36 cs=U x)(aq:cs.length=17):∃(d e g i j:ay) (fi mo:Int) (k l n o p q r s t u:Option am) (c1 c2 c3 c4 c5 v y z B E:Nat),cs=[J d.1,D k d.2.1.length c1,D q d.2.2.length v,J e.1,D l e.2.1.length c2,D r e.2.2.length y,J g.1,D n g.2.1.length c3,D s g.2.2.length z,J i.1,D o i.2.1.length c4,D t i.2.2.length B,J j.1,D p j.2.1.length c5,D u j.2.2.length E,H I fi,H I mo]/\(R2 aD k q c1 v d/\R2 aD l r c2 y e/\R2 aD n s c3 z g/\R2 aD o t c4 B i/\R2 aD p u c5 E j)/\db fi/\db mo:=by
 match cs,aq with
 |[f,m,R,X,aH,aV,bh,bi,bq,bB,A,C,F,K,M,N,Q],_=>
  obtain⟨a,c,_,_,aw,ar,b⟩:=DataW.trod_struct underlying36 h;have ax:a.length=7:=ar;have G:b7 enc ae aD 0 (λ_=>true) true c 34 (([f,m,R,X,aH,aV,bh,bi,bq,bB,A,C,F,K,M,N,Q].drop 0).take (Tryz.prog.cellsOf 34))=a[0]? :=b 0 _ rfl;have L:b7 enc ae aD 0 (λ_=>true) true c 34 (([f,m,R,X,aH,aV,bh,bi,bq,bB,A,C,F,K,M,N,Q].drop 3).take (Tryz.prog.cellsOf 34))=a[1]? :=b 1 _ rfl;have P:b7 enc ae aD 0 (λ_=>true) true c 34 (([f,m,R,X,aH,aV,bh,bi,bq,bB,A,C,F,K,M,N,Q].drop 6).take (Tryz.prog.cellsOf 34))=a[2]? :=b 2 _ rfl;have S:b7 enc ae aD 0 (λ_=>true) true c 34 (([f,m,R,X,aH,aV,bh,bi,bq,bB,A,C,F,K,M,N,Q].drop 9).take (Tryz.prog.cellsOf 34))=a[3]? :=b 3 _ rfl;have T:b7 enc ae aD 0 (λ_=>true) true c 34 (([f,m,R,X,aH,aV,bh,bi,bq,bB,A,C,F,K,M,N,Q].drop 12).take (Tryz.prog.cellsOf 34))=a[4]? :=b 4 _ rfl;have V:b7 enc ae aD 0 (λ_=>true) true c 3 (([f,m,R,X,aH,aV,bh,bi,bq,bB,A,C,F,K,M,N,Q].drop 15).take (Tryz.prog.cellsOf 3))=a[5]? :=b 5 _ rfl;have Y:b7 enc ae aD 0 (λ_=>true) true c 3 (([f,m,R,X,aH,aV,bh,bi,bq,bB,A,C,F,K,M,N,Q].drop 16).take (Tryz.prog.cellsOf 3))=a[6]? :=b 6 _ rfl;rw[mn,aT (by omega)]at G L P S T;rw[nv,aT (by omega)]at V Y;obtain⟨d,k,q,c1,v,q1,ag⟩:=iy G rfl;obtain⟨e,l,r,c2,y,Z,ah⟩:=iy L rfl;obtain⟨g,n,s,c3,z,aa,ai⟩:=iy P rfl;obtain⟨i,o,t,c4,B,ab,aj⟩:=iy S rfl;obtain⟨j,p,u,c5,E,af,ak⟩:=iy T rfl;obtain⟨fi,au,al⟩:=kR V;obtain⟨mo,av,ao⟩:=kR Y;simp at q1 Z aa ab af;obtain⟨rfl,rfl,rfl⟩:=q1;obtain⟨rfl,rfl,rfl⟩:=Z;obtain⟨rfl,rfl,rfl⟩:=aa;obtain⟨rfl,rfl,rfl⟩:=ab;obtain⟨rfl,rfl,rfl⟩:=af;subst au av;exact⟨d,e,g,i,j,fi,mo,k,l,n,o,p,q,r,s,t,u,c1,c2,c3,c4,c5,v,y,z,B,E,rfl,⟨ag,ah,ai,aj,ak⟩,al,ao⟩
structure nw (z:Td):Prop where
 ar:db z.ar
 par:db z.par
 bits:db z.bits
 fi:db z.fi
 mo:db z.mo
theorem ED {α:Type}(cs:List α):cs=(cs.drop 0).take 11++((cs.drop 11).take 17++((cs.drop 28).take 3++((cs.drop 31).take 3++((cs.drop 34).take 3++cs.drop 37)))):=by
 have a:∀(b c:Nat),(cs.drop b).take c++cs.drop (b+c)=cs.drop b:=λb c=>by rw[<-List.drop_drop,List.take_append_drop]
 rw[a 34 3,a 31 3,a 28 3,a 11 17,a 0 11,List.drop_zero]
theorem EE {enc:an×W->cD}{base:Nat}{d:DataW cD}{p:List MemPlace}(r:Value.okWide ae aD .any base 38 v)(h:DataW.Trod enc ae aD 0 (λ_=>true) true 38 v d p):∃(xs:List W) (z:Td),v=af xs.toArray/\dU aD xs z/\nw z:=by
 simp only[Value.okWide,underlying38]at r;obtain⟨⟨b⟩,rfl,i,_⟩:=r;rw[kS.2.2.2.2]at i;replace i:b.length=38:=i;obtain⟨a7,aJ⟩:=h;obtain⟨c,f,_,_,a9,aP,e⟩:=DataW.trod_struct underlying38 aJ;have ba:c.length=6:=aP;have j:b7 enc ae aD 0 (λ_=>true) true f 31 ((b.drop 0).take (Tryz.prog.cellsOf 31))=c[0]? :=e 0 _ rfl;have k:b7 enc ae aD 0 (λ_=>true) true f 36 ((b.drop 11).take (Tryz.prog.cellsOf 36))=c[1]? :=e 1 _ rfl;have l:b7 enc ae aD 0 (λ_=>true) true f 34 ((b.drop 28).take (Tryz.prog.cellsOf 34))=c[2]? :=e 2 _ rfl;have n:b7 enc ae aD 0 (λ_=>true) true f 34 ((b.drop 31).take (Tryz.prog.cellsOf 34))=c[3]? :=e 3 _ rfl;have o:b7 enc ae aD 0 (λ_=>true) true f 34 ((b.drop 34).take (Tryz.prog.cellsOf 34))=c[4]? :=e 4 _ rfl;have g:b7 enc ae aD 0 (λ_=>true) true f 26 ((b.drop 37).take (Tryz.prog.cellsOf 26))=c[5]? :=e 5 _ rfl;rw[kS.2.2.1,aT (by omega)]at j;rw[kS.2.2.2.1,aT (by omega)]at k;rw[mn,aT (by omega)]at l n o;rw[i7.2.2.2.1,aT (by omega)]at g;obtain⟨nm,Z,Y,aw,p,a,code,aQ,av,aR,bits,U,V,S,Q,R,T,P,aa,ab,al,ak,cb,am,ao,aS,aM,aI,aN,aH⟩:=EB j (by simp;omega);obtain⟨aX,aY,aZ,a1,a2,aE,mo,u,x,y,A,B,F,G,I,J,K,c1,c2,c3,c4,c5,ax,ay,az,aB,aC,q1,aO,aK,aL⟩:=EC k (by simp;omega);obtain⟨a5,E,N,aj,au,aU,aG⟩:=iy l (by simp;omega);obtain⟨a3,C,L,ag,aq,aV,aF⟩:=iy n (by simp;omega);obtain⟨a4,D,M,ah,ar,aW,hF⟩:=iy o (by simp;omega);have aA:(b.drop 37).take 1=b.drop 37:=List.take_of_length_le (by simp;omega);rw[aA]at g
 obtain⟨m,s⟩:∃m,b.drop 37=[m]:=by
  match a8:b.drop 37,(by simp;omega:(b.drop 37).length=1)with
  |[m],_=>exact⟨m,rfl⟩
 rw[s]at g;obtain⟨a6,q⟩:=jp g;obtain⟨X,ai,rfl⟩:=q.form;have t:=ED b;rw[aS,q1,aU,aV,aW,s]at t;exact⟨b,⟨code,aQ,av,aR,nm,Z,a,Y,aw,p,bits,aX,aY,aZ,a1,a2,aE,mo,a5,a3,a4,a6⟩,rfl,⟨U,V,S,Q,R,T,P,u,x,y,A,B,F,G,I,J,K,E,N,C,L,D,M,X,aa,ab,al,ak,cb,am,ao,c1,c2,c3,c4,c5,ax,ay,az,aB,aC,aj,au,ag,aq,ah,ar,ai,t,aM,aO,⟨aG,aF,hF⟩,q⟩,⟨aI,aN,aH,aK,aL⟩⟩
def kT (F:Prop)(w:O)(e:aO)(b:O):Prop:= ∃a,e=aw (J a)/\Y (a=false->F)/\V w b
theorem EF {rs:List ba}{j:Nat}(b:j<rs.length)(h:∀r∈rs.take j,r.n.bd k)(h1:rs[j].n.bd k):∀r∈rs.take (j+1),r.n.bd k:=by
 intro r a;rw[List.take_succ_eq_append_getElem b]at a;rcases List.mem_append.1 a with a|a
 .exact h r a
 .simp at a;subst a;exact h1
def uU (code:List ba)(no:Nat):Prop:=code.length<=10/\no<=10/\ ∀r∈code,r.n.bd 2
theorem EG {code:List ba}{w:O}(h:Sn dc w (D TA code.length aH) code)(ag:code.length<=9223372036854775807)(ak:no<=9223372036854775807):
 aj ae 43 #[af #[D TA code.length aH,D TB no cB,H I ar,H I par],H I 10,H I 2] w (kT (uU code no) w):=by
 have t:=G h;clear h;go_enter func43,ntmps43;go_wp2_with fail;generalize q:ah w _=A at*;obtain⟨c,d⟩:=aC q;clear q;have i:=d.c4;have u:=G d;have z:=G c;clear i d c
 go_loopw[7] (λo wr=> ∃b:Nat,o=H I b/\b<=code.length/\b<=10/\Y (∀r∈code.take b,r.n.bd 2)/\V A wr) (λo _=>code.length-(aI o).toNat)
 case atStart=>exact⟨0,rfl,bn _,bn _,G (by simp),V.refl _⟩
 case round=>
  obtain⟨b,rfl,ab,L,p,n⟩:=hrel;have d:=u.out.up n;have c:=z.out.trans n;have i:=d.c4
  by_cases s:b<code.length
  .by_cases ai:b<10
   .obtain⟨Z,aq,aw,rfl,hb,R,e⟩:=(t.out.up (cV 0) c).at_ (cV 0) (by omega) s
    have g:=G λF=>EF s p.out (k:=2) F
    generalize code[b]=S at*;obtain⟨au,a,X,f⟩:=S;obtain⟨av,aa,rfl,l,m,N,P,Q⟩:=R;simp only at l m e g;obtain⟨U,c1,rfl⟩:=l.form;obtain⟨W,d1,rfl⟩:=m.form;have g3:=e 3 _ rfl;have C:=e 4 _ rfl;have E:=e 5 _ rfl;have k1:(b:Int)<(code.length:Int):=by omega
    have k2:(b:Int)<10:=by omega
    have al:(0:Int)<=(b:Int):=by omega
    have ao:((b:Int)).toNat=b:=by omega
    clear e l m N P Q
    by_cases j:(2:Int)<(f.2.1.length:Int)\/(2:Int)<(f.2.2.length:Int)
    .have v:=G j;clear j;go_wp2_with fail
     ((with_reducible refine(oK v.out (by omega)).mono ?_))
     rintro B w2 ⟨rfl,u2⟩;go_wp2;go_ret;exact⟨true,rfl,G (λh=>by cases h),c.trans u2⟩
    .have y:=G (g.out ⟨by omega,by omega⟩);have J:(f.2.1.length:Int)<=2:=by omega
     have K:(f.2.2.length:Int)<=2:=by omega
     clear j g;go_wp2_with fail
     ((with_reducible refine(oJ J K (by omega)).mono ?_))
     rintro B w2 ⟨rfl,u2⟩;have T:=n.trans u2;clear u2 g3 C E i;go_wp2
     go_roundw
     case rel=>exact⟨b+1,by go_num,by omega,by omega,y,T⟩
     case measure=>simp[aI];omega
   .obtain rfl:b=10:=by omega
    have k1:(10:Int)<(code.length:Int):=by omega
    go_wp2;go_ret;exact⟨true,by first|rfl|simp,G (λh=>by cases h),c⟩
  .obtain rfl:b=code.length:=by omega
   have k2:decide ((10:Int)<(code.length:Int))=false:=decide_eq_false (by omega);have x:Y (∀r∈code,r.n.bd 2):=G (by have:=p.out;rw[co]at this;exact this)
   by_cases M:(10:Int)<(no:Int)
   .go_wp2;go_ret;exact⟨true,by first|rfl|simp,G (λh=>by cases h),c⟩
   .have an:decide ((10:Int)<(no:Int))=false:=decide_eq_false M;go_wp2;go_ret;exact⟨false,by first|rfl|(simp;done)|(simp;omega),G (λ_=>⟨L,by omega,x.out⟩),c⟩
theorem nx {rs:List ay}{w:O}(h:Sq Rw w v rs):aj ae 18 #[v,H I 4,H I 4] w (mp rs 4 4 w):=oL 4 4 h (by omega) (by omega)
structure uV (nm:ByteArray) (c:List ay) (a:List (List ay)) (b e:List ay):Prop where
 n:nm.size<=50
 la:a.length<=4
 b:b.length<=4/\ ∀r∈b,r.bd 4
 c:c.length<=4/\ ∀r∈c,r.bd 4
 e:e.length<=4/\ ∀r∈e,r.bd 4
 a:∀l∈a,l.length<=4/\ ∀r∈l,r.bd 4
theorem EH {nm:ByteArray}{c b e:List ay}{a:List (List ay)}{w:O}(E:eg w (D SC c.length cc) (D SA a.length ca) (D SB b.length cb) (D SE e.length ce) c a b e)(ab:a.length<=9223372036854775807):
 aj ae 44 #[af #[al nm,D SC c.length cc,D SA a.length ca,D SB b.length cb,D SE e.length ce],H I 4,H I 4] w (kT (uV nm c a b e) w):=by
 have o:=G E;clear E;have d:V w (w.alloc (ao #[al nm,D SC c.length cc,D SA a.length ca,D SB b.length cb,D SE e.length ce] 29)):=(V.refl w).alloc _;have g:=Bx.new 29 w [al nm,D SC c.length cc,D SA a.length ca,D SB b.length cb,D SE e.length ce];go_enter func44,ntmps44
 by_cases C:(50:Int)<(nm.size:Int)
 .skip;go_wp2_with fail;generalize(w.alloc (ao #[al nm,D SC c.length cc,D SA a.length ca,D SB b.length cb,D SE e.length ce] 29))=A at*;have j:=g.c5;go_wp2;go_ret;exact⟨true,rfl,G (λi=>by cases i),d⟩
 by_cases ha:(4:Int)<(a.length:Int)
 .have k1:decide ((50:Int)<(nm.size:Int))=false:=decide_eq_false C;go_wp2_with fail;generalize(w.alloc (ao #[al nm,D SC c.length cc,D SA a.length ca,D SB b.length cb,D SE e.length ce] 29))=A at*;have j:=g.c5;go_wp2;go_ret;exact⟨true,rfl,G (λi=>by cases i),d⟩
 have k1:decide ((50:Int)<(nm.size:Int))=false:=decide_eq_false C;have k2:decide ((4:Int)<(a.length:Int))=false:=decide_eq_false ha;go_wp2_with fail;generalize(w.alloc (ao #[al nm,D SC c.length cc,D SA a.length ca,D SB b.length cb,D SE e.length ce] 29))=A at*;have j:=g.c5
 ((with_reducible refine(nx (o.out.b.up cG d)).mono ?_))
 rintro t U ⟨n,rfl,p,l⟩;revert d g j;revert l;refine bX ?_;intro d g j;cases n;rotate_left
 .skip;go_wp2;go_ret;exact⟨true,rfl,G (λi=>by cases i),d⟩
 replace p:=G (p.out rfl);go_wp2_with fail
 ((with_reducible refine(nx (o.out.c.up cG d)).mono ?_))
 rintro t W ⟨n,rfl,q,l⟩;revert d g j;revert l;refine bX ?_;intro d g j;cases n;rotate_left
 .skip;go_wp2;go_ret;exact⟨true,rfl,G (λi=>by cases i),d⟩
 replace q:=G (q.out rfl);go_wp2_with fail
 ((with_reducible refine(nx (o.out.e.up cG d)).mono ?_))
 rintro t N ⟨n,rfl,s,l⟩;revert d g j;revert l;refine bX ?_;intro d g j;cases n;rotate_left
 .skip;go_wp2;go_ret;exact⟨true,rfl,G (λi=>by cases i),d⟩
 replace s:=G (s.out rfl);go_wp2_with fail;have F:=G g;have M:=G d;clear j g d
 go_loopw[7] (λx wr=> ∃f:Nat,x=H I f/\f<=a.length/\Y (∀k∈a.take f,k.length<=4/\ ∀r∈k,r.bd 4)/\V N wr) (λx _=>a.length-(aI x).toNat)
 case atStart=>exact⟨0,rfl,bn _,G (by simp),V.refl _⟩
 case round=>
  obtain⟨f,rfl,aa,y,v⟩:=hrel;have g:=F.out.up v;have d:=M.out.trans v;have j:=g.c5
  by_cases B:f<a.length
  .obtain⟨X,ak,an,rfl,hb,P,u⟩:=(o.out.a.up cG d).at_ B
   have z:Y (∀(i:a[f].length<=4/\ ∀r∈a[f],r.bd 4),∀k∈a.take (f+1),k.length<=4/\ ∀r∈k,r.bd 4):=G λQ k m=>by
    rw[List.take_succ_eq_append_getElem B]at m;rcases List.mem_append.1 m with m|m
    .exact y.out k m
    .simp at m;subst m;exact Q
   generalize a[f]=k at*;obtain⟨S,Z,rfl⟩:=u.form;have ah:(f:Int)<(a.length:Int):=by omega
   have ag:(0:Int)<=(f:Int):=by omega
   have ai:((f:Int)).toNat=f:=by omega
   go_wp2_with fail
   ((with_reducible refine(nx u).mono ?_))
   rintro t T ⟨n,rfl,L,l⟩;have R:=v.trans l;replace d:=d.trans l;cases n
   .have K:=G (z.out (L.out rfl));clear l P u j g z;go_wp2
    go_roundw
    case rel=>exact⟨f+1,by go_num,by omega,K,R⟩
    case measure=>simp[aI];omega
   .skip;go_wp2;go_ret;exact⟨true,rfl,G (λi=>by cases i),d⟩
  .obtain rfl:f=a.length:=by omega
   have J:Y (∀k∈a,k.length<=4/\ ∀r∈k,r.bd 4):=G (by have:=y.out;rw[co]at this;exact this);go_wp2;go_ret;exact⟨false,rfl,G (λ_=>⟨by omega,by omega,p.out,q.out,s.out,J.out⟩),d⟩
structure uW (code:List ba) (no:Nat) (nm:ByteArray) (c:List ay) (a:List (List ay)) (b e p:List ay):Prop where
 t:uU code no
 s:uV nm c a b e
 p:p.length<=6/\ ∀r∈p,r.bd 2
theorem EI {rs:List ay}{w:O}(h:Sq Rw w v rs):aj ae 18 #[v,H I 6,H I 2] w (mp rs 6 2 w):=oL 6 2 h (by omega) (by omega)
theorem uX {rs:List ay}{w:O}(h:Sq Rw w v rs):aj ae 18 #[v,H I 4,H I 2] w (mp rs 4 2 w):=oL 4 2 h (by omega) (by omega)
theorem EJ {nm:ByteArray}{c b e p:List ay}{a:List (List ay)}{code:List ba}{w:O}(q:Sn dc w (D TA code.length aH) code)(t:eg w (D SC c.length cc) (D SA a.length ca) (D SB b.length cb) (D SE e.length ce) c a b e)(s:Sq Rw w (D PA p.length cp) p)(h1:code.length<=9223372036854775807)(h2:no<=9223372036854775807)(y:a.length<=9223372036854775807):
 aj ae 15 #[af #[D TA code.length aH,D TB no cB,H I ar,H I par,al nm,D SC c.length cc,D SA a.length ca,D SB b.length cb,D SE e.length ce,D PA p.length cp,H I bits],H I 10,H I 4,H I 2] w (kT (uW code no nm c a b e p) w):=by
 have x:=G q;have v:=G t;have u:=G s;clear q t s;go_enter func15,ntmps15;go_wp2_with fail;generalize r:ah w _=C at*;obtain⟨d,f⟩:=aC r;clear r;have g:=f.ek
 ((with_reducible refine(EG (x.out.up (cV 0) d) h1 h2).mono ?_))
 rintro o z ⟨j,rfl,l,k⟩;revert d f g;revert k;refine bX ?_;intro d f g;cases j;rotate_left
 .skip;go_wp2;go_ret;exact⟨true,rfl,G (λi=>by cases i),d⟩
 replace l:=G (l.out rfl);go_wp2_with fail
 ((with_reducible refine(EH (v.out.up d) y).mono ?_))
 rintro o A ⟨j,rfl,m,k⟩;revert d f g;revert k;refine bX ?_;intro d f g;cases j;rotate_left
 .skip;go_wp2;go_ret;exact⟨true,rfl,G (λi=>by cases i),d⟩
 replace m:=G (m.out rfl);go_wp2_with fail
 ((with_reducible refine(EI (u.out.up cG d)).mono ?_))
 rintro o B ⟨j,rfl,n,k⟩;revert d f g;revert k;refine bX ?_;intro d f g;cases j;rotate_left
 .skip;go_wp2;go_ret;exact⟨true,rfl,G (λi=>by cases i),d⟩
 replace n:=G (n.out rfl);go_wp2;go_ret;exact⟨false,rfl,G (λ_=>⟨l.out,m.out,n.out⟩),d⟩
structure uY (code:List ba) (no:Nat) (nm:ByteArray) (c:List ay) (a:List (List ay)) (b e p:List ay) (bits mo:Int) (rs:List ay) (y:List ay):Prop where
 p:uW code no nm c a b e p
 bits:bits<=300
 mo:¬(12<mo/\mo<=200)
 rs:∀r∈rs,r.bd 2
 y:y.length<=4/\ ∀r∈y,r.bd 2
theorem EK {nm:ByteArray}{c b e p:List ay}{a:List (List ay)}{code:List ba}{uZ mS vf mE vg mF:List Nat}{y:List ay}{w:O}(z:Sn dc w (D TA code.length aH) code)(F:eg w (D SC c.length cc) (D SA a.length ca) (D SB b.length cb) (D SE e.length ce) c a b e)(E:Sq Rw w (D PA p.length cp) p)(h1:code.length<=9223372036854775807)(h2:no<=9223372036854775807)(U:a.length<=9223372036854775807)(L:Sq Rw w (D YK y.length cK) y):
 aj ae 4 #[af #[D TA code.length aH,D TB no cB,H I ar,H I par,al nm,D SC c.length cc,D SA a.length ca,D SB b.length cb,D SE e.length ce,D PA p.length cp,H I bits,J s1,D A1 l1.length c1,D D1 m1.length e1,J s2,D A2 l2.length c2,D D2 m2.length e2,J s3,D A3 l3.length c3,D D3 m3.length e3,J s4,D A4 l4.length c4,D D4 m4.length e4,J s5,D A5 l5.length c5,D D5 m5.length e5,H I fi,H I mo,J sS,D AS uZ.length cS,D DS mS.length dS,J sE,D AE vf.length cE,D DE mE.length dE,J sF,D AF vg.length cH,D DF mF.length dF,D YK y.length cK]] w (kT (uY code no nm c a b e p bits mo [(s1,l1,m1),(s2,l2,m2),(s3,l3,m3),(s4,l4,m4),(s5,l5,m5),(sS,uZ,mS),(sE,vf,mE),(sF,vg,mF)] y) w):=by
 have P:=G z;have N:=G F;have M:=G E;have x:=G L;clear z F E L;go_enter func4,ntmps4;go_wp2_with fail;generalize A:ah w _=Z at*;obtain⟨d,g⟩:=aC A;clear A;have i:=g.wo
 ((with_reducible refine(EJ (P.out.up (cV 0) d) (N.out.up d) (M.out.up cG d) h1 h2 U).mono ?_))
 rintro l W ⟨j,rfl,t,k⟩;revert d g i;revert k;refine bX ?_;intro d g i;cases j;rotate_left
 .skip;go_wp2;go_ret;exact⟨true,rfl,G (λf=>by cases f),d⟩
 replace t:=G (t.out rfl)
 by_cases hb:(300:Int)<bits
 .skip;go_wp2;go_ret;exact⟨true,rfl,G (λf=>by cases f),d⟩
 have aa:decide ((300:Int)<bits)=false:=decide_eq_false hb;go_wp2_with fail;have ab:=hb
 ((with_reducible refine(Eh 2 (K:=2) rfl (by decide)).mono ?_))
 rintro l X ⟨j,rfl,u,k⟩;revert d g i;revert k;refine bX ?_;intro d g i;cases j;rotate_left
 .skip;go_wp2;go_ret;exact⟨true,rfl,G (λf=>by cases f),d⟩
 replace u:=G (u.out rfl)
 by_cases B:(12:Int)<mo
 .by_cases C:mo<=200
  .skip;go_wp2;go_ret;exact⟨true,rfl,G (λf=>by cases f),d⟩
  .have v:Y (¬((12:Int)<mo/\mo<=200)):=G (λf=>C f.2);have V:decide (mo<=200)=false:=decide_eq_false C;go_wp2_with fail
   ((with_reducible refine(gW 2 (K:=2) rfl (by decide)).mono ?_))
   rintro l Q ⟨j,rfl,m,k⟩;revert d g i;revert k;refine bX ?_;intro d g i
   cases j;rotate_left
   .skip;go_wp2;go_ret;exact⟨true,rfl,G (λf=>by cases f),d⟩
   replace m:=G (m.out rfl);go_wp2_with fail
   ((with_reducible refine(gW 2 (K:=2) rfl (by decide)).mono ?_))
   rintro l R ⟨j,rfl,n,k⟩;revert d g i;revert k;refine bX ?_;intro d g i
   cases j;rotate_left
   .skip;go_wp2;go_ret;exact⟨true,rfl,G (λf=>by cases f),d⟩
   replace n:=G (n.out rfl);go_wp2_with fail
   ((with_reducible refine(gW 2 (K:=2) rfl (by decide)).mono ?_))
   rintro l S ⟨j,rfl,o,k⟩;revert d g i;revert k;refine bX ?_;intro d g i
   cases j;rotate_left
   .skip;go_wp2;go_ret;exact⟨true,rfl,G (λf=>by cases f),d⟩
   replace o:=G (o.out rfl);go_wp2_with fail
   ((with_reducible refine(uX (x.out.up cG d)).mono ?_))
   rintro l T ⟨j,rfl,q,k⟩;revert d g i;revert k;refine bX ?_;intro d g i
   cases j;rotate_left
   .skip;go_wp2;go_ret;exact⟨true,rfl,G (λf=>by cases f),d⟩
   replace q:=G (q.out rfl);go_wp2;go_ret;refine⟨false,rfl,G (λ_=>⟨t.out,by omega,v.out,λr s=> ?_,q.out⟩),d⟩;have h2:=u.out;simp only[List.mem_cons,List.not_mem_nil,or_false]at s;rcases s with rfl|rfl|rfl|rfl|rfl|rfl|rfl|rfl
   .exact h2.1
   .exact h2.2.1
   .exact h2.2.2.1
   .exact h2.2.2.2.1
   .exact h2.2.2.2.2
   .exact m.out
   .exact n.out
   .exact o.out
 .have v:Y (¬((12:Int)<mo/\mo<=200)):=G (λf=>B f.1);have V:decide ((12:Int)<mo)=false:=decide_eq_false B;go_wp2_with fail
  ((with_reducible refine(gW 2 (K:=2) rfl (by decide)).mono ?_))
  rintro l Q ⟨j,rfl,m,k⟩;revert d g i;revert k;refine bX ?_;intro d g i
  cases j;rotate_left
  .skip;go_wp2;go_ret;exact⟨true,rfl,G (λf=>by cases f),d⟩
  replace m:=G (m.out rfl);go_wp2_with fail
  ((with_reducible refine(gW 2 (K:=2) rfl (by decide)).mono ?_))
  rintro l R ⟨j,rfl,n,k⟩;revert d g i;revert k;refine bX ?_;intro d g i
  cases j;rotate_left
  .skip;go_wp2;go_ret;exact⟨true,rfl,G (λf=>by cases f),d⟩
  replace n:=G (n.out rfl);go_wp2_with fail
  ((with_reducible refine(gW 2 (K:=2) rfl (by decide)).mono ?_))
  rintro l S ⟨j,rfl,o,k⟩;revert d g i;revert k;refine bX ?_;intro d g i
  cases j;rotate_left
  .skip;go_wp2;go_ret;exact⟨true,rfl,G (λf=>by cases f),d⟩
  replace o:=G (o.out rfl);go_wp2_with fail
  ((with_reducible refine(uX (x.out.up cG d)).mono ?_))
  rintro l T ⟨j,rfl,q,k⟩;revert d g i;revert k;refine bX ?_;intro d g i
  cases j;rotate_left
  .skip;go_wp2;go_ret;exact⟨true,rfl,G (λf=>by cases f),d⟩
  replace q:=G (q.out rfl);go_wp2;go_ret;refine⟨false,rfl,G (λ_=>⟨t.out,by omega,v.out,λr s=> ?_,q.out⟩),d⟩;have h2:=u.out;simp only[List.mem_cons,List.not_mem_nil,or_false]at s;rcases s with rfl|rfl|rfl|rfl|rfl|rfl|rfl|rfl
  .exact h2.1
  .exact h2.2.1
  .exact h2.2.2.1
  .exact h2.2.2.2.1
  .exact h2.2.2.2.2
  .exact m.out
  .exact n.out
  .exact o.out
end Go.Proofs.YtjopfpegcckllaaGreatDoor
