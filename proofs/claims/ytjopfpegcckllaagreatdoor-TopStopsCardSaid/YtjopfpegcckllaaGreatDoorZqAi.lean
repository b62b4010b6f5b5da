/- A part of TopStops's proof: SvAll SvPastR SvPastC. -/
import Derived.Deep.DeepCutAuto
import Derived.Test.YtjopfpegcckllaaGreatDoorZqAh
set_option linter.all false
set_option maxRecDepth 100000
set_option maxHeartbeats 12800000
open Go.Proofs.Tryz
open Go renaming World→O,Value→W,Calls→aj,Addr→am,TypeId→an,Ending→aO,sizeOf→ci,isAgg→ct,bodyPost_ret→a4,wp_region_noPanic→aZ,wp_region_held_drew→a3,wpAnyH_done→aW
open Go.Act renaming put→bg
open Go.AllReadyH renaming cons→av,nil→bm
open Go.Ending renaming returned→aw
open Go.IntKind renaming i64→I
open Go.Lib renaming hid→G
open Go.NoPanic renaming normal→aX
open Go.Obj renaming cells→ao
open Go.Proofs.Tryz renaming prog→ae
open Go.RowKit renaming Hid→Y,intOf→aI
open Go.Value renaming tuple→aY,int→H,bool→J,slice→D,agg→af,pointer→az,string→al
open Go.World renaming setCell→ag,alloc→ah
open List renaming getElem_mem→cq,getD_eq_getElem?_getD→bz,getElem?_eq_getElem→aT
open Nat renaming le_refl→a8,le_trans→aQ,zero_le→bn
open Option renaming some→U
variable {s1 s2 s3 s4:Bool}{ls:List (List Rat)}{y y0:List Rat}{vs x:List W}{c1 c2 cy d1 d2 g gm k kh kp kt ky m1 m2 n1 n2:Nat}{ab w w0:O}{A1 A2 D1 D2 YA:Option am}{h0 q q1 t:Rat}{u u1 v vE vK vN vY vy:W}{T:an}
namespace Go.Proofs.YtjopfpegcckllaaGreatDoor
open Go.RowKit
namespace Z
theorem Cv {P:Pr}{h:Rat}{c:Rat}{a:List Rat}{ks:List (List Rat)}(b:(fD P t h y c a ks).1=aG):(fD P t h y c a ks).2.2.length=P.os.length:=by
 unfold fD at b|-;simp only at b|-
 split
 .rename_i d
  rw[if_pos d]at b
  split
  .rename_i e
   exact Cr e
  .rename_i e
   rw[if_neg e]at b;simp only at b;rcases m8 P.L P.code P.os (t+h*c) (from_ y h a ks) P.p with f|f
   .exact absurd f e
   .have g:(field P.L P.code P.os (t+h*c) (from_ y h a ks) P.p).1.1=0:=congrArg Prod.fst b;omega
 .rename_i d
  rw[if_neg d]at b;exact absurd b d
theorem tX (P:Pr)(t h:Rat)(y:List Rat)(c:Rat)(a:List Rat)(d:List (List Rat)):(fD P t h y c a d).1=aG\/(fD P t h y c a d).1.1≠0:=by
 unfold fD;simp only
 split
 .split
  .exact .inl rfl
  .rename_i f
   rcases m8 P.L P.code P.os (t+h*c) (from_ y h a d) P.p with b|b
   .exact absurd b f
   .exact .inr (by simp only;omega)
 .rename_i e
  rcases kD (L:=P.L) (l:=from_ y h a d) (s:=(d.length:Int))with b|b
  .exact absurd b e
  .exact .inr (by rw[b];decide)
theorem Cw {cs:List Rat}{kF:List (List Rat)}{i:Nat}(h:i<cs.length)(h2:i<kF.length):(List.zip cs kF).drop i=(cs.getD i 0,kF.getD i [])::(List.zip cs kF).drop (i+1):=by
 have a:i<(List.zip cs kF).length:=by simp;omega
 rw[List.drop_eq_getElem_cons a]
 congr 1
 simp[bz,aT h,aT h2]
end Z
theorem fE.up {w0 w ab:O}{gm gg:Nat}{x:List W}{L a:Int}{ys ks:List (List Rat)}{vN vE:W}(h:fE w0 w gm gg x L a ys ks vN vE)(b:V w ab):fE w0 ab gm gg x L a ys ks vN vE:=by
 obtain⟨m,l,c,pk,h1,h2,d,e,f,g,i,j,k⟩:=h;exact⟨m,l,c,pk,h1,h2.up b,d.up b,e.up b,f.up b,g,i.trans b,j,k⟩
instance fE.bW {w0 w ab:O} {gm gg:Nat} {x:List W} {L a:Int} {ys ks:List (List Rat)} {vN vE:W}:Lu (V w ab) (fE w0 w gm gg x L a ys ks vN vE) (fE w0 ab gm gg x L a ys ks vN vE):=bu λu h=>h.up u
theorem bk.eZ (h:bk k w0 w v ls)(hb:Bx 154 w g vs)(B:Gb g w ab):bk k w0 ab v ls:=B.rws h hb
theorem aF.eZ {qs:List Rat}(h:aF k w v qs)(hb:Bx 154 w g vs)(B:Gb g w ab):aF k ab v qs:=B.own (aR k) h hb (by decide)
theorem Kt.eZ {w1:O}(h:Kt w w1)(hb:Bx 154 w1 g vs)(B:Gb g w1 ab):Kt w ab:=h.gb hb B
def hM (w0 w:O)(g:Nat)(x:List W)(z:bv×Z.Md)(e:aO)(a:O):Prop:=
 e=aw (cJ z.1)/\V w0 a/\Kt w a/\(z.1=Z.aG-> ∃f c d b,Bx 110 a g (x++[f,c,d,b])/\bk 130 w0 a f z.2.ys/\bk 130 w0 a c z.2.ks/\aF 130 a d z.2.next/\aF 130 a b z.2.err)
theorem hM.bad {z:bv×Z.Md}{f:bv}{d:Z.Md}(h:z=(f,d))(a:f≠Z.aG)(c:V w0 ab)(b:Kt w ab):hM w0 w gm x z (aw (cJ f)) ab:=by
 subst h;exact⟨rfl,c,b,λe=>absurd e a⟩
theorem hM.of {z:bv×Z.Md}{f:bv}{d:Z.Md}(h:z=if f=Z.aG then(Z.aG,d)else(f,⟨[],[],[],[]⟩))(c:V w0 ab)(b:Kt w ab)(j:Bx 110 ab gm (x++[vY,vK,vN,vE]))(l:bk 130 w0 ab vY d.ys)(g:bk 130 w0 ab vK d.ks)(k:aF 130 ab vN d.next)(i:f=Z.aG->aF 130 ab vE d.err):hM w0 w gm x z (aw (cJ f)) ab:=by
 subst h
 by_cases a:f=Z.aG
 .rw[if_pos a];exact⟨by rw[a],c,b,λ_=>⟨vY,vK,vN,vE,j,l,g,k,i a⟩⟩
 .rw[if_neg a];exact⟨rfl,c,b,λe=>absurd e a⟩
theorem Cx {q:Pb}{gg:Nat}
 (c8:c7 kp w0 x q)(cn:Y (eD q))(c9:Y (q.right=true))(db:Fr w0 (af #[J s1,D A1 n1 c1,D D1 m1 d1]) t kt)(aJ:Fr w0 (af #[J s2,D A2 n2 c2,D D2 m2 d2]) h0 kh)(dc:aU ky w0 (D YA y0.length cy) y0)(b6:Y ((y0.length:Int)=q.ar))
 (c4:fE w0 w gm gg (x++[J s1,D A1 n1 c1,D D1 m1 d1,J s2,D A2 n2 c2,D D2 m2 d2,D YA y0.length cy,az (U ⟨gg,0,none⟩)]) (Ga.a5 q.bits) 0 [] [] (D none 0 0) (D none 0 0))(ey:kt<=100000)(ew:kh<=90000)(eA:ky<=1000)(ex:kp<=1000):
 aj ae 41 #[az (U ⟨gm,0,none⟩)] w (hM w0 w gm (x++[J s1,D A1 n1 c1,D D1 m1 d1,J s2,D A2 n2 c2,D D2 m2 d2,D YA y0.length cy,az (U ⟨gg,0,none⟩)]) (Z.step q.pr t h0 y0)):=by
 have dw:=G c8;obtain⟨aT,a5,aY,a6,aw,aE,aq,aD,ar,cb,ay,aG,aS,a7,rfl,dJ,dH,cY,dI⟩:=c8;have cD:=G cY;have dA:=G db;have b9:=G aJ;have cK:=G dc;clear dJ dH cY dI db aJ dc;have dt:=G c4;obtain⟨vY,vK,cS,pk,c0,bP,cW,cZ,cX,cV,cP,ck,b5⟩:=c4;obtain⟨a2,ba,rfl⟩:=cZ.form;obtain⟨a1,a9,rfl⟩:=cX.form;have b:Bx 110 w gm [D aT q.code.length a5,D aY q.os.length a6,H I q.ar,H I q.par,al q.nm,D aw q.c.length aE,D aq q.a.length aD,D ar q.b.length cb,D ay q.e.length aG,D aS q.p.length a7,H I q.bits,J s1,D A1 n1 c1,D D1 m1 d1,J s2,D A2 n2 c2,D D2 m2 d2,D YA y0.length cy,az (U ⟨gg,0,none⟩),D a2 ([]:List (List Rat)).length ba,D a1 ([]:List (List Rat)).length a9,D none 0 0,D none 0 0]:=bP;have eg:=G b;have cc:=G (kB c9.out);have cH:=G (io cc.out.1);have bq:=G (pv cc.out.2.1);have dd:y0.length<=6:=by have:=cH.out.1;have:=b6.out;omega
 have dM:q.b.length<=8:=bq.out.2.1;obtain⟨bR,bY⟩:∃bR,Y (Z.step q.pr t h0 y0=bR):=⟨_,G rfl⟩;rw[bY.out];have cG:=G cP;have eB:gm<w.heap.size:=b.lt;have dp:=G cW.lt;have ca:=G (Ga.mI q.bits).2;have dY:=λaR=>cx (o:=aR) (b.k 4)
 have dZ:=λaR=>cx (o:=aR) (b.k 5)
 have d0:=λaR=>cx (o:=aR) (b.k 6)
 have d7:=λaR=>cx (o:=aR) (b.k 7)
 have d8:=λaR=>cx (o:=aR) (b.k 8)
 clear bP cW cZ cX cV cP b c0;go_enter func41,ntmps41;go_wp2_with fail;generalize A:ah (ah w _) _=cQ at*;obtain⟨d,a,sc⟩:=br A;clear A;have g:=a.c4;have B:=a.free;have r:=sc.c5;clear dY dZ d0 d7 d8;have cF:=G sc;have bj:Y (Sh cQ w.heap.size):=G ⟨0,0,0,0,a⟩;have bd:=G ((Kt.refl w).up d);have bg:Y (fE w0 cQ gm gg [D aT q.code.length a5,D aY q.os.length a6,H I q.ar,H I q.par,al q.nm,D aw q.c.length aE,D aq q.a.length aD,D ar q.b.length cb,D ay q.e.length aG,D aS q.p.length a7,H I q.bits,J s1,D A1 n1 c1,D D1 m1 d1,J s2,D A2 n2 c2,D D2 m2 d2,D YA y0.length cy,az (U ⟨gg,0,none⟩)] (Ga.a5 q.bits) (6*(0:Nat)) [] [] (D none 0 0) (D none 0 0)):=G (dt.out.up d);clear a sc d g B r;have dB:Y ((List.zip (aN q.c) (q.a.map aN)).length=q.b.length):=G (by have:=bq.out;unfold aN;simp;omega)
 go_loopw[4,5,16] (λ_ _ cp wr=> ∃(i:Nat) (N y:List (List Rat)),cp=H I (i:Int)/\i<=q.b.length/\Y (fE w0 wr gm gg [D aT q.code.length a5,D aY q.os.length a6,H I q.ar,H I q.par,al q.nm,D aw q.c.length aE,D aq q.a.length aD,D ar q.b.length cb,D ay q.e.length aG,D aS q.p.length a7,H I q.bits,J s1,D A1 n1 c1,D D1 m1 d1,J s2,D A2 n2 c2,D D2 m2 d2,D YA y0.length cy,az (U ⟨gg,0,none⟩)] (Ga.a5 q.bits) (6*(i:Nat)) N y (D none 0 0) (D none 0 0))/\Y (N.length=i)/\Y (y.length=i)/\Y (∀k∈y,k.length=y0.length)/\Y (Z.eW q.pr t h0 y0 (List.zip q.pr.c q.pr.a) [] []=Z.eW q.pr t h0 y0 ((List.zip (aN q.c) (q.a.map aN)).drop i) N y)/\Bx 47 wr (w.heap.size+1) [al q.nm,D aw q.c.length aE,D aq q.a.length aD,D ar q.b.length cb,D ay q.e.length aG]/\Y (Sh wr w.heap.size)/\Y (Kt w wr)) (λ_ _ cp _=>q.b.length-(aI cp).toNat)
 case atStart=>exact⟨0,[],[],rfl,bn _,bg,G rfl,G rfl,G (by simp),G rfl,cF.out,bj,bd⟩
 case round=>
  clear bg cF bj bd;obtain⟨i,N,y,rfl,dQ,bg,cM,bo,bV,bX,sc,bj,bd⟩:=hrel
  by_cases c3:i<q.b.length
  .obtain⟨P,bZ⟩:∃P,Y (Z.fD q.pr t h0 y0 ((aN q.c).getD i 0) ((q.a.map aN).getD i []) y=P):=⟨_,G rfl⟩;have dW:(i:Int)<(q.b.length:Int):=by omega
   go_wp2_with fail
   ((with_reducible refine(Cu dw.out cn c9 dA.out b9.out cK.out b6 bg.out c3 bo cM bV (by omega) (by omega) (by omega) (by omega) (by omega)).mono ?_))
   rintro bs bl ⟨rfl,dC,b0,cm⟩;rw[bZ.out]at cm|-;have dR:i<q.a.length:=by have:=bq.out;omega
   have dS:i<q.c.length:=by have:=bq.out;omega
   have cd:Y (Z.eW q.pr t h0 y0 (List.zip q.pr.c q.pr.a) [] []=if P.1=Z.aG then Z.eW q.pr t h0 y0 ((List.zip (aN q.c) (q.a.map aN)).drop (i+1)) (N++[P.2.1]) (y++[P.2.2])else(P.1,[],[])):=G (by rw[bX.out,Z.Cw (by unfold aN;simpa using dS) (by simpa using dR),Z.tW,bZ.out]);have cz:Y (P.1=Z.aG\/P.1.1≠0):=G (by rw[<-bZ.out];exact Z.tX _ _ _ _ _ _ _)
   have cA:Y (P.1=Z.aG->P.2.2.length=y0.length):=G (λM=>by
    rw[<-bZ.out]at M|-;rw[Z.Cv M];have eo:=cH.out.1.2.2.2.2.1;have ep:=b6.out;show q.os.length=y0.length;omega)
   have cB:=G cm;have f:=bd.out.trans b0;have cq:=b0.1 _ _ _ (by decide) sc;have cr:=b0.2 _ bj.out;have dV:w0.heap.size<=w.heap.size:=cG.out.size;clear cm bg bX bj bd b0 sc;unfold cJ
   by_cases M:P.1=Z.aG
   rotate_left
   .have dT:(P.1.1==0)=false:=by
     rw[beq_eq_false_iff_ne];rcases cz.out with aJ|aJ
     .exact absurd aJ M
     .exact aJ
    have ce:Y (bR=(P.1,⟨[],[],[],[]⟩)):=G (by
     rw[<-bY.out];unfold Z.step;simp only;rw[cd.out,if_neg M];simp only;rw[if_neg M])
    obtain⟨df,dg,dh,di,a⟩:=cr;have d:=dC;clear cq;have g:=a.c4;have B:=a.free;have eb:=ez g;have ec:=a.fa;go_wp2_with fail;clear eb ec;generalize A:ah bl _=bz at*;obtain⟨bQ,aH⟩:=aC A;clear A;have eH:=a.lt;revert f a d g;refine bf bQ ?_;intro f a d g
    replace B:=a.free;clear bQ;have dG:=aH.c4;generalize A:ag (ag (ag (ag bz _ _) _ _) _ _) _ _=bA at*;have e:=bp a A;clear A;replace f:=f.bs e;replace aH:=aH.bs e;replace a:=e.new;replace d:=d.bs e;clear e;clear g;have g:=a.c4;replace dG:=aH.c4;exact a4 (cl rfl rfl bM bN a rfl) rfl (hM.bad ce.out M d f)
   .have dz:Y (Z.eW q.pr t h0 y0 (List.zip q.pr.c q.pr.a) [] []=Z.eW q.pr t h0 y0 ((List.zip (aN q.c) (q.a.map aN)).drop (i+1)) (N++[P.2.1]) (y++[P.2.2])):=G (by rw[cd.out,if_pos M]);have ds:=G (cB.out M);have dr:=G (cA.out M);have dm:Y (6*((i+1:Nat):Int)=6*(i:Int)+6):=G (by omega);have dx:=G (cq.up ((V.refl bl).alloc (ao #[H I 0,H I 0,H I 0,H I 0] 63)));have dy:Y (Sh (bl.alloc (ao #[H I 0,H I 0,H I 0,H I 0] 63)) w.heap.size):=G (((Kt.refl bl).up ((V.refl bl).alloc _)).2 _ cr);have dq:=G (f.up ((V.refl bl).alloc (ao #[H I 0,H I 0,H I 0,H I 0] 63)));rw[M];unfold Z.aG;simp only;clear cd cB cA cz cq cr f M;go_wp2_with fail
    go_roundw
    case rel=>exact⟨i+1,N++[P.2.1],y++[P.2.2],by first|rfl|go_num,by omega,by rw[dm.out];exact G (fE.up ds.out ((V.refl bl).alloc _)),G (by simp[cM.out]),G (by simp[bo.out]),G (by
     intro k bv;rcases List.mem_append.1 bv with bv|bv
     .exact bV.out k bv
     .simp at bv;subst bv;exact dr.out),dz,dx.out,dy,dq⟩
    case measure=>simp[aI];omega
  .obtain rfl:i=q.b.length:=by omega
   have cE:Y (Z.eW q.pr t h0 y0 (List.zip q.pr.c q.pr.a) [] []=(Z.aG,N,y)):=G (by rw[bX.out,List.drop_of_length_le (by rw[dB.out];exact a8 _)];rfl);obtain⟨vY,vK,cS,pk,c0,bP,gb,n,j,cV,d,ck,b5⟩:=bg.out;obtain⟨a2,ba,rfl⟩:=n.form;obtain⟨a1,a9,rfl⟩:=j.form;have b:Bx 110 wr gm [D aT q.code.length a5,D aY q.os.length a6,H I q.ar,H I q.par,al q.nm,D aw q.c.length aE,D aq q.a.length aD,D ar q.b.length cb,D ay q.e.length aG,D aS q.p.length a7,H I q.bits,J s1,D A1 n1 c1,D D1 m1 d1,J s2,D A2 n2 c2,D D2 m2 d2,D YA y0.length cy,az (U ⟨gg,0,none⟩),D a2 N.length ba,D a1 y.length a9,D none 0 0,D none 0 0]:=bP;have c5:gm≠gg:=cL b gb (by decide);obtain⟨df,dg,dh,di,a⟩:=bj.out;have f:=bd.out;have dV:w0.heap.size<=w.heap.size:=cG.out.size;have ev:gg<w.heap.size:=dp.out;have dj:Y ((aN q.b).length=y.length):=G (by rw[bo.out];unfold aN;simp);have dN:(aN q.b).length<=8:=by unfold aN;simpa using dM
   obtain⟨z,bW⟩:∃z,Y (Z.from_ y0 h0 (aN q.b) y=z):=⟨_,G rfl⟩;have du:Y (z.length=y0.length):=G (by rw[<-bW.out];unfold Z.from_ Z.fh;simp[Z.ir]);have dW:¬((q.b.length:Int)<(q.b.length:Int)):=by omega
   clear bP bg bX bj bd c3 dQ;have v:=gb.c3;have g:=a.c4;have B:=a.free;have r:=sc.c5;have aK:=b.k 21;go_wp2_with fail
   with_reducible refine((tS b ((cD.out.b.aN cn.out.iq.b (by omega)).up d) j.jD (b9.out.up d) (cK.out.up d) rfl dj.out (by omega) bV dN (by omega) (by omega) (by omega) (by omega))).mono ?_
   rintro bs bz ⟨eh,rfl,NX,u61⟩;clear r aK;revert sc gb d n j b a f v g;refine bw u61 ?_;intro sc gb d n j b a f v g
   replace B:=a.free;have r:=sc.c5;clear u61;rw[bW.out]at NX;obtain⟨Q,R,rfl⟩:=NX.form;have m:=NX.a;have dv:=G (aQ (Nat.le_of_eq du.out) dd);have eE:=b.free 21;have aK:=b.k 21;clear NX;go_upto_region 10 with fail
   have kw:Kw bz (bz.setCell ⟨gm,21,none⟩ (D Q z.length R)):=Kw.store (c:=D none 0 0) b rfl trivial _;replace n:=n.stored b (by decide) kw;replace j:=j.stored b (by decide) kw;replace m:=m.stored b (by decide) kw;replace f:=f.nJ (i:=21) (x:=D Q z.length R) b;replace gb:=gb.ck (p:=⟨gm,21,none⟩) c5.symm (D Q z.length R);replace a:=a.fr gm 21 (D Q z.length R);replace sc:=sc.fr gm 21 (D Q z.length R);replace d:=d.setCell (p:=⟨gm,21,none⟩) ck (D Q z.length R);replace b:=b.set 21 (D Q z.length R);clear kw;generalize bz.setCell ⟨gm,21,none⟩ (D Q z.length R)=bA at*;have b:Bx 110 bA gm [D aT q.code.length a5,D aY q.os.length a6,H I q.ar,H I q.par,al q.nm,D aw q.c.length aE,D aq q.a.length aD,D ar q.b.length cb,D ay q.e.length aG,D aS q.p.length a7,H I q.bits,J s1,D A1 n1 c1,D D1 m1 d1,J s2,D A2 n2 c2,D D2 m2 d2,D YA y0.length cy,az (U ⟨gg,0,none⟩),D a2 N.length ba,D a1 y.length a9,D Q z.length R,D none 0 0]:=b;clear aK v g B r;obtain⟨aH,b7⟩:∃ch,Y (Z.fits (Ga.a5 q.bits) z q.b.length=ch):=⟨_,G rfl⟩;have eC:z.length<=6:=dv.out;have v:=gb.c3;have g:=a.c4;have B:=a.free;have r:=sc.c5
   go_cut [6] (λed aP=> ∃(ci:Nat) (b2 de:Int),ed=az (U ⟨ci,0,none⟩)/\Bx 63 aP ci [H I aH.1,H I aH.2.1,H I aH.2.2.1,H I aH.2.2.2]/\w.heap.size+1<ci/\(0<=b2/\b2<=cS+6)/\Bx 110 aP gm [D aT q.code.length a5,D aY q.os.length a6,H I q.ar,H I q.par,al q.nm,D aw q.c.length aE,D aq q.a.length aD,D ar q.b.length cb,D ay q.e.length aG,D aS q.p.length a7,H I q.bits,J s1,D A1 n1 c1,D D1 m1 d1,J s2,D A2 n2 c2,D D2 m2 d2,D YA y0.length cy,az (U ⟨gg,0,none⟩),D a2 N.length ba,D a1 y.length a9,D Q z.length R,D none 0 0]/\Bx 154 aP gg [H I b2,H I de,H I (Ga.a5 q.bits)]/\Bx 63 aP w.heap.size [H I df,H I dg,H I dh,H I di]/\Bx 47 aP (w.heap.size+1) [al q.nm,D aw q.c.length aE,D aq q.a.length aD,D ar q.b.length cb,D ay q.e.length aG]/\bk 130 w0 aP (D a2 N.length ba) N/\bk 130 w0 aP (D a1 y.length a9) y/\aF (ky+(kh+2000)+1) aP (D Q z.length R) z/\Kt w aP/\V w0 aP)
   case first=>
    have aK:=b.k 21;clear r;revert n j m f gb a sc d b v aK;refine bC (V.refl bA).drew ?_;intro n j m f gb a sc d b v aK;revert g;refine cj (V.refl bA).drew ?_;intro g
    replace B:=a.free;have r:=sc.c5;refine aZ ?_;refine a3 (S:=λaO=>V w0 aO/\Cz aO gm 21 [D Q z.length R]/\Cz aO (w.heap.size+1) 0 [al q.nm,D aw q.c.length aE,D aq q.a.length aD,D ar q.b.length cb,D ay q.e.length aG]) (by kernel_rfl) (by exact⟨d,b.cy 21 1,sc.cz⟩) (λK=> ?_);generalize bA.drew=aB at*;refine aa 0 ?_;refine aa 1 ?_;refine aa 2 ?_;refine aa 3 ?_;refine aa 4 ?_;refine aa 5 ?_;refine aa 6 ?_;refine aa 7 ?_;refine aa 8 ?_
    repeat' first
     |refine ak [9,10] ?_
     |refine ak [9] ?_
     |refine ak [10] ?_
     |refine ak [11] ?_
     |refine av (i:=9) rfl (λaV da=> ?_) ?_
     |refine av (i:=10) rfl (λaV bh=> ?_) ?_
     |refine av (i:=11) rfl (λaV bi=> ?_) ?_
     |exact bm
     |(have E:=da;clear da
       (try clear K)
       go_simp;go_at_call 77
       with_reducible refine(m6 b rfl gb m (by omega) (by omega) (by omega)).mono ?_
       rintro bs aB ⟨dE,ea,rfl,bL,dL,B2⟩;replace n:=n.eZ gb B2;replace j:=j.eZ gb B2;replace f:=f.eZ gb B2;replace m:=m.eZ gb B2;replace b:=B2.bx b (by omega);replace a:=B2.bx a (by omega);replace sc:=B2.bx sc (by omega)
       try(replace u:=B2.bx u (by omega))
       replace d:=B2.du d b5;replace gb:=bL;clear B2;clear aK;have aK:=b.k 21;clear v;have v:=gb.c3;replace B:=a.free;clear g;have g:=a.c4;clear r;have r:=sc.c5;rw[b7.out];unfold cJ
       try go_wp2_with fail
       refine ax E (by exact⟨d,b.cy 21 1,sc.cz⟩) (λK=> ?_);clear E aV)
     |(have E:=bh;clear bh
       (try clear K)
       go_simp;have eG:=b.lt;have en:=gb.lt;have eI:=a.lt;have ee:=sc.lt;have el:=d.size;generalize bu:aB.heap.size=cU at*;generalize A:ah aB _=aB at*;obtain⟨bQ,u⟩:=b3 A bu;clear A bu;refine gA bQ n j f m b gb a sc d aK ?_;clear n j f m b gb a sc d aK;intro n j f m b gb a sc d aK
       clear v;have v:=gb.c3;replace B:=a.free;clear g;have g:=a.c4;clear r;have r:=sc.c5;clear bQ;refine ax E (by exact⟨d,b.cy 21 1,sc.cz⟩) (λK=> ?_);clear E aV)
     |(have E:=bi;clear bi
       (try clear K)
       obtain⟨bD,bE,bF,bG⟩:=u.c4;have bH:=u.free 0;have bI:=u.free 1;have bJ:=u.free 2;have bK:=u.free 3;go_simp;clear bD bE bF bG bH bI bJ bK;generalize A:ag (ag (ag (ag aB _ _) _ _) _ _) _ _=aB at*;have e:=bp u A;clear A;replace n:=n.bs e;replace j:=j.bs e;replace f:=f.bs e;replace m:=m.bs e;replace b:=b.bs e;replace gb:=gb.bs e;replace a:=a.bs e;replace sc:=sc.bs e;replace u:=e.new;replace d:=d.bs e;clear e;clear aK;have aK:=b.k 21;clear v;have v:=gb.c3;replace B:=a.free;clear g;have g:=a.c4;clear r;have r:=sc.c5;refine ax E (by exact⟨d,b.cy 21 1,sc.cz⟩) (λK=> ?_);clear E aV)
     |refine aW (by decide +kernel) (aX ?_) _
     |fail
    all_goals try clear K
    all_goals obtain⟨T,X,ab,ai⟩:=u.c4
    all_goals
     have dU:=ee;go_wp2_with fail
     go_meet
     exact⟨cU,dE,ea,rfl,u,dU,⟨dL.1,by omega⟩,b,gb,a,sc,n,j,m,f,d⟩
   case rest=>
    as_aux_lemma=>
    obtain⟨cU,b2,de,rfl,u,eu,et,b,gb,a,sc,n,j,m,f,d⟩:=hcut;clear v g B r;have cu:=G (kD (L:=Ga.a5 q.bits) (l:=z) (s:=(q.b.length:Int)));have cv:=G (kC (L:=Ga.a5 q.bits) (l:=z) (s:=(q.b.length:Int)));rw[b7.out]at cu cv;have v:=gb.c3;have g:=a.c4;have B:=a.free;have r:=sc.c5;obtain⟨T,X,ab,ai⟩:=u.c4
    have cw:Y (Z.fits q.pr.L (Z.from_ y0 h0 q.pr.b y) (q.pr.b.length:Int)=aH):=G (by
     show Z.fits (Ga.a5 q.bits) (Z.from_ y0 h0 (aN q.b) y) ((aN q.b).length:Int)=aH;rw[bW.out,show(aN q.b).length=q.b.length from by simp[aN]];exact b7.out)
    by_cases M:aH=Z.aG
    rotate_left
    .have dT:(aH.1==0)=false:=by
      rw[beq_eq_false_iff_ne];rcases cu.out with aJ|aJ
      .exact absurd aJ M
      .omega
     have ce:Y (bR=(aH,⟨[],[],[],[]⟩)):=G (by
      rw[<-bY.out];unfold Z.step;simp only;rw[cE.out,if_pos rfl];have cg:=cw.out;subst cg;exact if_neg M)
     go_wp2_with fail;generalize A:ag (ag (ag (ag wc _ _) _ _) _ _) _ _=bB at*;have e:=bp a A;clear A;replace n:=n.bs e;replace j:=j.bs e;replace f:=f.bs e;replace m:=m.bs e;replace b:=b.bs e;replace gb:=gb.bs e;replace sc:=sc.bs e;replace u:=u.bs e;replace a:=e.new;replace d:=d.bs e;clear e;clear v g r T X ab ai;have v:=gb.c3;have g:=a.c4;have r:=sc.c5;obtain⟨T,X,ab,ai⟩:=u.c4;exact a4 (cl rfl rfl bM bN a rfl) rfl (hM.bad ce.out M d f)
    .subst M;have cO:aF 130 wc (D Q z.length R) z:=aF.re m (cv.out rfl ca.out);obtain⟨bt,bU⟩:∃bt,Y (Z.iF (aN q.b) (aN q.e)=bt):=⟨_,G rfl⟩;clear m;have m:=cO;clear cO;unfold Z.aG at u T X ab ai;simp only at u T X ab ai;go_wp2_with fail
     with_reducible refine(Cg (cD.out.up d) (G cn.out.iq) (G cc.out.2.1)).mono ?_
     rintro bs bB ⟨ei,rfl,bb,u81⟩;clear r T X ab ai;revert b gb a sc n j f d v u m;refine bC u81 ?_;intro b gb a sc n j f d v u m;revert g;refine cj u81 ?_;intro g
     replace B:=a.free;have r:=sc.c5;obtain⟨T,X,ab,ai⟩:=u.c4;clear u81;rw[bU.out]at bb;obtain⟨C,bT⟩:∃C,Y (Z.err q.pr h0 y=C):=⟨_,G rfl⟩;obtain⟨b4,bx⟩:∃ch,Y (Z.fits (Ga.a5 q.bits) C ((q.b.length:Int)+1)=ch):=⟨_,G rfl⟩
     have cN:Y (bR=if b4=Z.aG then(Z.aG,⟨N,y,z,C⟩)else(b4,⟨[],[],[],[]⟩)):=G (by
      have dP:Z.fits q.pr.L (Z.err q.pr h0 y) ((q.pr.b.length:Int)+1)=b4:=by
       show Z.fits (Ga.a5 q.bits) (Z.err q.pr h0 y) (((aN q.b).length:Int)+1)=b4;rw[bT.out,show(aN q.b).length=q.b.length from by simp[aN]];exact bx.out
      have dF:=bW.out;have cg:=bT.out;rw[<-bY.out];unfold Z.step;simp only;rw[cE.out,if_pos rfl];subst dF cg dP;exact if_pos cw.out)
     have cI:Y (IntKind.i64.wrap ((q.b.length:Int)+1)=(q.b.length:Int)+1):=G (IntWalk.i64_in _ (by omega));obtain⟨ef,ek,rfl⟩:=bb.form
     by_cases bO:q.e.length=0
     .have co:aN q.e=[]:=by rw[List.length_eq_zero_iff]at bO;rw[bO];rfl
      have cC:Y (C=[]):=G (by rw[<-bT.out];unfold Z.err;exact if_pos co);have dX:¬((bt.length:Int)>0):=by rw[<-bU.out];unfold Z.iF;rw[if_pos co];simp
      have dO:C.length<=6:=by rw[cC.out];simp
      have F:aF 130 bB (D none 0 0) C:=by rw[cC.out];exact aA.nil _ _ _ _
      clear co bO;clear bb;go_wp2_with fail;have an:=b.k 22;clear r T X ab ai;revert b gb a sc n j f d u m F an;refine au (V.refl bB).drew ?_;intro b gb a sc n j f d u m F an;revert v g;refine cR (V.refl bB).drew ?_;intro v g
      replace B:=a.free;have r:=sc.c5;obtain⟨T,X,ab,ai⟩:=u.c4;refine aZ ?_;refine a3 (S:=λaO=>V w0 aO/\Cz aO gm 22 [D none 0 0]/\Cz aO (w.heap.size+1) 0 [al q.nm,D aw q.c.length aE,D aq q.a.length aD,D ar q.b.length cb,D ay q.e.length aG]) (by kernel_rfl) (by exact⟨d,b.cy 22 1,sc.cz⟩) (λK=> ?_);generalize bB.drew=aB at*;refine aa 0 ?_;refine aa 1 ?_;refine aa 2 ?_;refine aa 3 ?_;refine aa 4 ?_;refine aa 5 ?_;refine aa 6 ?_;refine aa 7 ?_;refine aa 8 ?_;refine aa 9 ?_
      repeat' first
       |refine ak [10] ?_
       |refine ak [11] ?_
       |refine av (i:=10) rfl (λaV bh=> ?_) ?_
       |refine av (i:=11) rfl (λaV bi=> ?_) ?_
       |exact bm
       |(have E:=bh;clear bh
         (try clear K)
         go_simp;go_at_call 77
         with_reducible refine(m6 b rfl gb F (by omega) (by omega) (by omega)).mono ?_
         rintro bs aB ⟨dD,d9,rfl,bL,dK,B2⟩;replace n:=n.eZ gb B2;replace j:=j.eZ gb B2;replace f:=f.eZ gb B2;replace m:=m.eZ gb B2;replace F:=F.eZ gb B2;replace b:=B2.bx b (by omega);replace a:=B2.bx a (by omega);replace sc:=B2.bx sc (by omega);replace u:=B2.bx u (by omega);replace d:=B2.du d b5;replace gb:=bL;clear B2;clear an;have an:=b.k 22;clear v;have v:=gb.c3;replace B:=a.free;clear g;have g:=a.c4;clear r;have r:=sc.c5;clear T X ab ai;obtain⟨T,X,ab,ai⟩:=u.c4;rw[cI.out,bx.out];unfold cJ
         try go_wp2_with fail
         refine ax E (by exact⟨d,b.cy 22 1,sc.cz⟩) (λK=> ?_);clear E aV)
       |(have E:=bi;clear bi
         (try clear K)
         obtain⟨bD,bE,bF,bG⟩:=a.c4;have bH:=a.free 0;have bI:=a.free 1;have bJ:=a.free 2;have bK:=a.free 3;go_simp;clear bD bE bF bG bH bI bJ bK;generalize A:ag (ag (ag (ag aB _ _) _ _) _ _) _ _=aB at*;have e:=bp a A;clear A;replace n:=n.bs e;replace j:=j.bs e;replace f:=f.bs e;replace m:=m.bs e;replace F:=F.bs e;replace b:=b.bs e;replace gb:=gb.bs e;replace sc:=sc.bs e;replace u:=u.bs e;replace a:=e.new;replace d:=d.bs e;clear e;clear an;have an:=b.k 22;clear v;have v:=gb.c3;replace B:=a.free;clear g;have g:=a.c4;clear r;have r:=sc.c5;clear T X ab ai;obtain⟨T,X,ab,ai⟩:=u.c4;refine ax E (by exact⟨d,b.cy 22 1,sc.cz⟩) (λK=> ?_);clear E aV)
       |refine aW (by decide +kernel) (aX ?_) _
       |fail
      all_goals try clear K
      all_goals
       go_wp2_with fail;exact a4 (cl rfl rfl bM bN a rfl) rfl (hM.of (x:=[D aT q.code.length a5,D aY q.os.length a6,H I q.ar,H I q.par,al q.nm,D aw q.c.length aE,D aq q.a.length aD,D ar q.b.length cb,D ay q.e.length aG,D aS q.p.length a7,H I q.bits,J s1,D A1 n1 c1,D D1 m1 d1,J s2,D A2 n2 c2,D D2 m2 d2,D YA y0.length cy,az (U ⟨gg,0,none⟩)]) (vY:=D a2 N.length ba) (vK:=D a1 y.length a9) (vN:=D Q z.length R) (vE:=D none 0 0) cN.out d f b n j m (λbu=>aF.re F (kC (bx.out.trans bu) ca.out)))
     .skip
      have b8:Y (bt.length=y.length):=G (by
       rw[<-bU.out];unfold Z.iF;have er:=bq.out.2.2.2.2.1;have es:=bo.out;rw[if_neg (by intro aJ;exact bO (by simpa[aN]using aJ))];simp[aN];omega)
      have dX:(bt.length:Int)>0:=by have:=b8.out;have:=bo.out;have:=bq.out.1;omega
      have dk:Y (q.ar.toNat=y0.length):=G (by have:=b6.out;omega)
      have ct:Y (Z.fh h0 bt y y0.length=C):=G (by
       rw[<-bT.out,<-bU.out];unfold Z.err Z.iF;have c6:aN q.e≠[]:=by intro aJ;exact bO (by simpa[aN]using aJ)
       show Z.fh h0 (if aN q.e=[]then[]else _) y y0.length=if aN q.e=[]then[]else Z.fh h0 _ y q.ar.toNat
       rw[if_neg c6,if_neg c6,dk.out];rfl)
      go_wp2_with fail
      with_reducible refine((tR b bb.fs j.jD (b9.out.up d) b8.out (by omega) bV (by have:=b8.out;have:=bo.out;omega) (by omega) (by omega) (by omega))).mono ?_
      rintro bs cf ⟨ej,rfl,bS,u82⟩;clear r T X ab ai;revert b gb a sc n j f d v u m bb;refine au u82 ?_;intro b gb a sc n j f d v u m bb;revert g;refine cj u82 ?_;intro g
      replace B:=a.free;have r:=sc.c5;obtain⟨T,X,ab,ai⟩:=u.c4;clear u82;rw[ct.out]at bS;have dn:Y (C.length<=6):=G (by rw[<-ct.out];unfold Z.fh;rw[List.length_map,Z.ir];exact dd);have F:=bS.a;obtain⟨aL,aM,rfl⟩:=bS.form;have dO:=dn.out;have eF:=b.free 22;have an:=b.k 22;clear bS bb;go_wp2_with fail;have kw:Kw cf (cf.setCell ⟨gm,22,none⟩ (D aL C.length aM)):=Kw.store (c:=D none 0 0) b rfl trivial _;replace n:=n.stored b (by decide) kw;replace j:=j.stored b (by decide) kw;replace m:=m.stored b (by decide) kw;replace F:=F.stored b (by decide) kw;replace f:=f.nJ (i:=22) (x:=D aL C.length aM) b;replace gb:=gb.ck (p:=⟨gm,22,none⟩) c5.symm (D aL C.length aM);replace a:=a.fr gm 22 (D aL C.length aM);replace sc:=sc.fr gm 22 (D aL C.length aM);replace d:=d.setCell (p:=⟨gm,22,none⟩) ck (D aL C.length aM);replace b:=b.set 22 (D aL C.length aM);clear kw u;generalize cf.setCell ⟨gm,22,none⟩ (D aL C.length aM)=b1 at*;have b:Bx 110 b1 gm [D aT q.code.length a5,D aY q.os.length a6,H I q.ar,H I q.par,al q.nm,D aw q.c.length aE,D aq q.a.length aD,D ar q.b.length cb,D ay q.e.length aG,D aS q.p.length a7,H I q.bits,J s1,D A1 n1 c1,D D1 m1 d1,J s2,D A2 n2 c2,D D2 m2 d2,D YA y0.length cy,az (U ⟨gg,0,none⟩),D a2 N.length ba,D a1 y.length a9,D Q z.length R,D aL C.length aM]:=b;clear an v g B r T X ab ai;have v:=gb.c3;have g:=a.c4;have B:=a.free;have r:=sc.c5;have an:=b.k 22;clear r;revert n j m F f gb a sc d b v an;refine au (V.refl b1).drew ?_;intro n j m F f gb a sc d b v an;revert g;refine cj (V.refl b1).drew ?_;intro g
      replace B:=a.free;have r:=sc.c5;refine aZ ?_;refine a3 (S:=λaO=>V w0 aO/\Cz aO gm 22 [D aL C.length aM]/\Cz aO (w.heap.size+1) 0 [al q.nm,D aw q.c.length aE,D aq q.a.length aD,D ar q.b.length cb,D ay q.e.length aG]) (by kernel_rfl) (by exact⟨d,b.cy 22 1,sc.cz⟩) (λK=> ?_);generalize b1.drew=aB at*;refine aa 0 ?_;refine aa 1 ?_;refine aa 2 ?_;refine aa 3 ?_;refine aa 4 ?_;refine aa 5 ?_;refine aa 6 ?_;refine aa 7 ?_;refine aa 8 ?_;refine aa 9 ?_
      repeat' first
       |refine ak [10] ?_
       |refine ak [11] ?_
       |refine av (i:=10) rfl (λaV bh=> ?_) ?_
       |refine av (i:=11) rfl (λaV bi=> ?_) ?_
       |exact bm
       |(have E:=bh;clear bh
         (try clear K)
         go_simp;go_at_call 77
         with_reducible refine(m6 b rfl gb F (by omega) (by omega) (by omega)).mono ?_
         rintro bs aB ⟨dD,d9,rfl,bL,dK,B2⟩;replace n:=n.eZ gb B2;replace j:=j.eZ gb B2;replace f:=f.eZ gb B2;replace m:=m.eZ gb B2;replace F:=F.eZ gb B2;replace b:=B2.bx b (by omega);replace a:=B2.bx a (by omega);replace sc:=B2.bx sc (by omega);replace d:=B2.du d b5;replace gb:=bL;clear B2;clear an;have an:=b.k 22;clear v;have v:=gb.c3;replace B:=a.free;clear g;have g:=a.c4;clear r;have r:=sc.c5;rw[cI.out,bx.out];unfold cJ
         try go_wp2_with fail
         refine ax E (by exact⟨d,b.cy 22 1,sc.cz⟩) (λK=> ?_);clear E aV)
       |(have E:=bi;clear bi
         (try clear K)
         obtain⟨bD,bE,bF,bG⟩:=a.c4;have bH:=a.free 0;have bI:=a.free 1;have bJ:=a.free 2;have bK:=a.free 3;go_simp;clear bD bE bF bG bH bI bJ bK;generalize A:ag (ag (ag (ag aB _ _) _ _) _ _) _ _=aB at*;have e:=bp a A;clear A;replace n:=n.bs e;replace j:=j.bs e;replace f:=f.bs e;replace m:=m.bs e;replace F:=F.bs e;replace b:=b.bs e;replace gb:=gb.bs e;replace sc:=sc.bs e;replace a:=e.new;replace d:=d.bs e;clear e;clear an;have an:=b.k 22;clear v;have v:=gb.c3;replace B:=a.free;clear g;have g:=a.c4;clear r;have r:=sc.c5;refine ax E (by exact⟨d,b.cy 22 1,sc.cz⟩) (λK=> ?_);clear E aV)
       |refine aW (by decide +kernel) (aX ?_) _
       |fail
      all_goals try clear K
      all_goals
       go_wp2_with fail;exact a4 (cl rfl rfl bM bN a rfl) rfl (hM.of (x:=[D aT q.code.length a5,D aY q.os.length a6,H I q.ar,H I q.par,al q.nm,D aw q.c.length aE,D aq q.a.length aD,D ar q.b.length cb,D ay q.e.length aG,D aS q.p.length a7,H I q.bits,J s1,D A1 n1 c1,D D1 m1 d1,J s2,D A2 n2 c2,D D2 m2 d2,D YA y0.length cy,az (U ⟨gg,0,none⟩)]) (vY:=D a2 N.length ba) (vK:=D a1 y.length a9) (vN:=D Q z.length R) (vE:=D aL C.length aM) cN.out d f b n j m (λbu=>aF.re F (kC (bx.out.trans bu) ca.out)))
theorem gl {fn:Func}{tmps:Array W}{t t':Tmp}{S dw iU:an}{n bI gP:Nat}{cs e9:List W}(o:fn.results=#[.cell t T,.cell t' dw])(p:tmps.getD t undef=az (U ⟨g,0,none⟩))(q:tmps.getD t' undef=az (U ⟨bI,0,none⟩))
 (i:∀w:O,(ct T).run ae w= .ok true w)(e:∀w:O,(ci T).run ae w= .ok n w)(j:∀w:O,(ct dw).run ae w= .ok true w)(f:∀w:O,(ci dw).run ae w= .ok gP w)(hb:Bx S w g cs)(l:cs.length=n)(k:Bx iU w bI e9)(m:e9.length=gP):
 (results fn tmps).run ae w= .ok (aY #[af cs.toArray,af e9.toArray]) w:=by
 have c:=gO i e hb l;have d:=gO j f k m;have a:tmps[t]?.getD undef=az (U ⟨g,0,none⟩):=by simpa using p
 have b:tmps[t']?.getD undef=az (U ⟨bI,0,none⟩):=by simpa using q
 simp[results,o,a,b,c,d,asAddr]
theorem Cy (T S R a b:an)(w:O)(vs us xs ys c:List W):
 Bx T (((((w.alloc (ao vs.toArray T)).alloc (ao us.toArray S)).alloc (ao xs.toArray R)).alloc (ao ys.toArray a)).alloc (ao c.toArray b)) w.heap.size vs/\Bx S (((((w.alloc (ao vs.toArray T)).alloc (ao us.toArray S)).alloc (ao xs.toArray R)).alloc (ao ys.toArray a)).alloc (ao c.toArray b)) (w.heap.size+1) us/\
 Bx R (((((w.alloc (ao vs.toArray T)).alloc (ao us.toArray S)).alloc (ao xs.toArray R)).alloc (ao ys.toArray a)).alloc (ao c.toArray b)) (w.heap.size+1+1) xs/\Bx a (((((w.alloc (ao vs.toArray T)).alloc (ao us.toArray S)).alloc (ao xs.toArray R)).alloc (ao ys.toArray a)).alloc (ao c.toArray b)) (w.heap.size+1+1+1) ys/\
 Bx b (((((w.alloc (ao vs.toArray T)).alloc (ao us.toArray S)).alloc (ao xs.toArray R)).alloc (ao ys.toArray a)).alloc (ao c.toArray b)) (w.heap.size+1+1+1+1) c:=by
 obtain⟨e,f,g,i⟩:=rX T S R a w vs us xs ys;have d:((((w.alloc (ao vs.toArray T)).alloc (ao us.toArray S)).alloc (ao xs.toArray R)).alloc (ao ys.toArray a)).heap.size=w.heap.size+1+1+1+1:=by simp
 exact⟨e.up ((V.refl _).alloc _),f.up ((V.refl _).alloc _),g.up ((V.refl _).alloc _),i.up ((V.refl _).alloc _),by rw[<-d];exact Bx.new b _ c⟩
def kG (L:Int)(w0 w:O)(e:aO)(b:O):Prop:= ∃a,e=aw (az (U ⟨a,0,none⟩))/\Bx 154 b a [H I 0,H I 0,H I L]/\w0.heap.size<=a/\V w b
theorem kG.of {L:Int}{e:aO}(c:V w0 w)(h:sZ L w e ab):kG L w0 w e ab:=by
 obtain⟨g,h1,h2,a,b⟩:=h;exact⟨g,h1,h2,aQ c.size a,b⟩
namespace Z
theorem tY (P:Pr)(t h:Rat)(y:List Rat):∀(l:List (Rat×List Rat)) (ys f:List (List Rat)),(eW P t h y l ys f).1=aG\/(eW P t h y l ys f).1.1≠0
 |[],ys,f=> .inl rfl
 |(m,a)::l,ys,f=>by
  rw[tW]
  split
  .exact tY P t h y l _ _
  .rename_i c
   rcases tX P t h y m a f with b|b
   .exact absurd b c
   .exact .inr b
theorem m9 (P:Pr)(t h:Rat)(y:List Rat):(step P t h y).1=aG\/(step P t h y).1.1≠0:=by
 unfold step;simp only
 split
 .split
  .split
   .exact .inl rfl
   .rename_i b
    rcases kD (L:=P.L) (l:=err P h (eW P t h y (List.zip P.c P.a) [] []).2.2) (s:=(P.b.length:Int)+1)with a|a
    .exact absurd a b
    .exact .inr (by rw[a];decide)
  .rename_i b
   rcases kD (L:=P.L) (l:=from_ y h P.b (eW P t h y (List.zip P.c P.a) [] []).2.2) (s:=(P.b.length:Int))with a|a
   .exact absurd a b
   .exact .inr (by rw[a];decide)
 .rename_i b
  rcases tY P t h y (List.zip P.c P.a) [] []with a|a
  .exact absurd a b
  .exact .inr a
end Z
theorem tZ (w:O):(ct 73).run ae w= .ok true w:=by kernel_rfl
theorem t0 (w:O):(ci 73).run ae w= .ok 4 w:=by kernel_rfl
def hN (z:bv×Z.Md)(w:O)(e:aO)(d:O):Prop:= ∃j g i f:W,e=aw (aY #[af #[j,g,i,f],cJ z.1])/\((∃a c b,j=D a c b)/\(∃a c b,g=D a c b)/\(∃a c b,i=D a c b)/\ ∃a c b,f=D a c b)/\V w d/\
 (z.1=Z.aG->bk 130 w d j z.2.ys/\bk 130 w d g z.2.ks/\aF 130 d i z.2.next/\aF 130 d f z.2.err)
theorem hN.bad {z:bv×Z.Md}(h:z.1≠Z.aG)(a:V w ab):hN z w (aw (aY #[af #[D none 0 0,D none 0 0,D none 0 0,D none 0 0],cJ z.1])) ab:=
 ⟨_,_,_,_,rfl,⟨⟨_,_,_,rfl⟩,⟨_,_,_,rfl⟩,⟨_,_,_,rfl⟩,⟨_,_,_,rfl⟩⟩,a,λe=>absurd e h⟩
theorem hN.bV {z:bv×Z.Md}(h:z.1=Z.aG)(g:V w ab)(f:bk 130 w ab vY z.2.ys)(d:bk 130 w ab vK z.2.ks)(e:aF 130 ab vN z.2.next)(b:aF 130 ab vE z.2.err):hN z w (aw (aY #[af #[vY,vK,vN,vE],cJ Z.aG])) ab:=by
 refine⟨_,_,_,_,by rw[h],⟨?_,?_,?_,?_⟩,g,λ_=>⟨f,d,e,b⟩⟩
 .obtain⟨a,c,rfl⟩:=f.form;exact⟨_,_,_,rfl⟩
 .obtain⟨a,c,rfl⟩:=d.form;exact⟨_,_,_,rfl⟩
 .obtain⟨a,c,rfl⟩:=e.form;exact⟨_,_,_,rfl⟩
 .obtain⟨a,c,rfl⟩:=b.form;exact⟨_,_,_,rfl⟩
theorem pG {q:Pb}{vt vh:W}(bC:c7 kp w x q)(bb:Y (eD q))(bD:Y (q.right=true))(bd:Fr w vt t kt)(B:Fr w vh h0 kh)(bg:aU ky w vy y0)(bG:Y ((y0.length:Int)=q.ar))
 (ct:kt<=100000)(cq:kh<=90000)(cu:ky<=1000)(cr:kp<=1000):aj ae 12 #[af x.toArray,vt,vh,vy] w (hN (Z.step q.pr t h0 y0) w):=by
 have br:=G bC;obtain⟨aq,au,ar,aw,an,aA,ai,ay,am,cb,ao,aB,ab,aD,rfl,ca,b6,b9,b7⟩:=bC;clear ca b6 b9 b7;obtain⟨aQ,rfl,⟨Q,aJ,c1,aE⟩,⟨T,aH,d1,aF⟩⟩:=(bF kt).form bd;obtain⟨aL,u0,b5⟩:=aQ;simp only at aE aF;subst aE aF;obtain⟨aQ,rfl,⟨R,aK,c2,aE⟩,⟨X,aI,d2,aF⟩⟩:=(bF kh).form B;obtain⟨aM,u0,b5⟩:=aQ;simp only at aE aF;subst aE aF;obtain⟨aT,cy,rfl⟩:=bg.form;have bR:Y (Fr w (af #[J aL,D Q aJ c1,D T aH d1]) t kt):=G bd;have bQ:Y (Fr w (af #[J aM,D R aK c2,D X aI d2]) h0 kh):=G B;have bU:=G bg;clear bd B bg;obtain⟨s,bt⟩:∃s,Y (Z.step q.pr t h0 y0=s):=⟨_,G rfl⟩;have bu:=G (Z.m9 q.pr t h0 y0);rw[bt.out]at bu|-;have cc: -9223372036854775808<=q.bits/\q.bits<=9223372036854775807:=bb.out.bits;have cv:((y0.length:Int) !=q.ar)=false:=by rw[bne_eq_false_iff_eq];exact bG.out
 show aj ae 12 #[af #[D aq q.code.length au,D ar q.os.length aw,H I q.ar,H I q.par,al q.nm,D an q.c.length aA,D ai q.a.length ay,D am q.b.length cb,D ao q.e.length aB,D ab q.p.length aD,H I q.bits],af #[J aL,D Q aJ c1,D T aH d1],af #[J aM,D R aK c2,D X aI d2],D aT y0.length cy] w _;go_enter func12,ntmps12;go_wp2_with fail;generalize g:ah (ah (ah (ah (ah w _) _) _) _) _=ck at*;obtain⟨c,o,m,n,b,a⟩:=zn g;clear g;have y:=o.ek;have z:=m.c3;have A:=n.c3;have e:=b.c4;have r:=b.free;have f:=a.c4;have p:=a.free
 with_reducible refine(mZ (br.out.up c) bb).mono ?_
 rintro bw E ⟨rfl,u1⟩;clear f;revert c o m n b a y;refine bS u1 ?_;intro c o m n b a y;revert z A e;refine bo u1 ?_;intro z A e;replace r:=b.free;have f:=a.c4;replace p:=a.free;clear u1;rw[bD.out];go_wp2_with fail;clear f;revert c o m n b a y;refine bS (V.refl E).drew ?_;intro c o m n b a y;revert z A e;refine bo (V.refl E).drew ?_;intro z A e;replace r:=b.free;have f:=a.c4;replace p:=a.free;refine aZ ?_;refine a3 (S:=λN=>V w N/\Cz N (w.heap.size) 0 [D aq q.code.length au,D ar q.os.length aw,H I q.ar,H I q.par,al q.nm,D an q.c.length aA,D ai q.a.length ay,D am q.b.length cb,D ao q.e.length aB,D ab q.p.length aD,H I q.bits]/\Cz N (w.heap.size+1) 0 [J aL,D Q aJ c1,D T aH d1]/\Cz N (w.heap.size+1+1) 0 [J aM,D R aK c2,D X aI d2]) (by kernel_rfl) (by exact⟨c,o.cz,m.cz,n.cz⟩) (λu=> ?_);generalize E.drew=v at*;refine aa 0 ?_;refine aa 1 ?_;refine aa 2 ?_;refine aa 3 ?_;refine aa 4 ?_;refine aa 5 ?_
 repeat' first
  |refine aa 7 ?_
  |refine aa 9 ?_
  |refine ak [6] ?_
  |refine ak [8] ?_
  |refine av (i:=6) rfl (λM bP=> ?_) ?_
  |refine av (i:=8) rfl (λM bT=> ?_) ?_
  |exact bm
  |(have k:=bP;clear bP
    (try clear u)
    go_simp;go_at_call 40
    with_reducible refine((kq cc _).mono λ_ _ B=>kG.of c B).mono ?_
    rintro bw v ⟨a9,rfl,aP,cd,bn⟩;revert c o m n b a y;refine bS bn ?_;intro c o m n b a y
    try(replace l:=l.up bn)
    clear z;have z:=m.c3;clear A;have A:=n.c3;replace r:=b.free;clear e;have e:=b.c4;replace p:=a.free;clear f;have f:=a.c4;clear bn
    try go_wp2_with fail
    refine ax k (by exact⟨c,o.cz,m.cz,n.cz⟩) (λu=> ?_);clear k M)
  |(have k:=bT;clear bT
    (try clear u)
    go_simp;have cm:=o.lt;have cn:=m.lt;have co:=n.lt;have cz:=b.lt;have cB:=a.lt;have bO:=c.size;generalize bz:v.heap.size=bx at*;generalize g:ah v _=v at*;obtain⟨C,l⟩:=b3 g bz;clear g bz
    try(replace aP:=aP.up C)
    revert c o m n b a y;refine bS C ?_;intro c o m n b a y
    clear z;have z:=m.c3;clear A;have A:=n.c3;replace r:=b.free;clear e;have e:=b.c4;replace p:=a.free;clear f;have f:=a.c4;clear C;refine ax k (by exact⟨c,o.cz,m.cz,n.cz⟩) (λu=> ?_);clear k M)
  |refine aW (by decide +kernel) (aX ?_) _
  |fail
 all_goals try clear u
 all_goals have cw:=l.wk
 have bq:Y (fE w v bx a9 ([D aq q.code.length au,D ar q.os.length aw,H I q.ar,H I q.par,al q.nm,D an q.c.length aA,D ai q.a.length ay,D am q.b.length cb,D ao q.e.length aB,D ab q.p.length aD,H I q.bits]++[J aL,D Q aJ c1,D T aH d1,J aM,D R aK c2,D X aI d2,D aT y0.length cy,az (U ⟨a9,0,none⟩)]) (Ga.a5 q.bits) 0 [] [] (D none 0 0) (D none 0 0)):=G ⟨D none 0 0,D none 0 0,0,0,by omega,l,aP,bk.nil _ _ _,bk.nil _ _ _,.inl rfl,c,bO,cd⟩;go_wp2_with fail
 ((with_reducible refine(Cx (q:=q) (x:=[D aq q.code.length au,D ar q.os.length aw,H I q.ar,H I q.par,al q.nm,D an q.c.length aA,D ai q.a.length ay,D am q.b.length cb,D ao q.e.length aB,D ab q.p.length aD,H I q.bits]) br.out bb bD bR.out bQ.out bU.out bG bq.out (by omega) (by omega) (by omega) (by omega)).mono ?_))
 rintro bw E ⟨rfl,bv,aS,ba⟩;rw[bt.out]at ba|-;have bs:=aS.1 _ _ _ (by decide) b;have aN:=aS.2 _ ⟨_,_,_,_,a⟩;have aR:=G ba;obtain⟨aQ,cG,cH,cI,aN⟩:=aN;clear ba aS c o m n b a l aP bO y z A e f r p bq;have c:=bv;have b:=bs;have a:=aN;clear bv bs aN;unfold cJ
 by_cases aG:s.1=Z.aG
 rotate_left
 .have cp:(s.1.1==0)=false:=by
   rw[beq_eq_false_iff_ne];rcases bu.out with B|B
   .exact absurd B aG
   .exact B
  clear aR;have e:=b.c4;have r:=b.free;have f:=a.c4;have p:=a.free;have bh:=ez e;have bi:=b.fa;have bj:=ez f;have bl:=a.fa;go_upto_region 6 with fail
  clear bh bi bj bl;generalize g:ah E _=aO at*;obtain⟨C,j⟩:=aC g;clear g;have ci:=b.lt;have cj:=a.lt;clear f;revert c b a e;refine bf C ?_;intro c b a e
  replace r:=b.free;have f:=a.c4;replace p:=a.free;clear C;have P:=j.c4;clear f;revert j c b a e;refine b8 (V.refl aO).drew ?_;intro j c b a e
  replace r:=b.free;have f:=a.c4;replace p:=a.free;replace P:=j.c4;refine aZ ?_;refine a3 (S:=λN=>V w N/\Cz N (E.heap.size) 0 [H I s.1.1,H I s.1.2.1,H I s.1.2.2.1,H I s.1.2.2.2]) (by kernel_rfl) (by exact⟨c,j.cz⟩) (λu=> ?_);generalize aO.drew=v at*;refine aa 0 ?_;refine aa 1 ?_
  repeat' first
   |refine ak [2] ?_
   |refine ak [3] ?_
   |refine ak [2] ?_
   |refine ak [3] ?_
   |refine av (i:=2) rfl (λM bB=> ?_) ?_
   |refine av (i:=3) rfl (λM bK=> ?_) ?_
   |exact bm
   |(have k:=bB;clear bB
     (try clear u)
     obtain⟨aV,aY,a1,a2⟩:=b.c4;have a5:=b.free 0;have a6:=b.free 1;have a7:=b.free 2;have a8:=b.free 3;go_simp;clear aV aY a1 a2 a5 a6 a7 a8;generalize g:ag (ag (ag (ag v _ _) _ _) _ _) _ _=v at*;have d:=bp b g;clear g;replace a:=a.bs d;replace j:=j.bs d;replace b:=d.new;replace c:=c.bs d;clear d;replace r:=b.free;clear e;have e:=b.c4;replace p:=a.free;clear f;have f:=a.c4;replace P:=j.c4;refine ax k (by exact⟨c,j.cz⟩) (λu=> ?_);clear k M)
   |(have k:=bK;clear bK
     (try clear u)
     obtain⟨aV,aY,a1,a2⟩:=a.c4;have a5:=a.free 0;have a6:=a.free 1;have a7:=a.free 2;have a8:=a.free 3;go_simp;clear aV aY a1 a2 a5 a6 a7 a8;generalize g:ag (ag (ag (ag v _ _) _ _) _ _) _ _=v at*;have d:=bp a g;clear g;replace b:=b.bs d;replace j:=j.bs d;replace a:=d.new;replace c:=c.bs d;clear d;replace r:=b.free;clear e;have e:=b.c4;replace p:=a.free;clear f;have f:=a.c4;replace P:=j.c4;refine ax k (by exact⟨c,j.cz⟩) (λu=> ?_);clear k M)
   |refine aW (by decide +kernel) (aX ?_) _
   |fail
  all_goals try clear u
  all_goals
   go_wp2_with fail;exact a4 (gl rfl rfl rfl tZ t0 bM bN b rfl a rfl) rfl (hN.bad aG c)
 .obtain⟨cF,cD,cE,cC,bA,L,k,K,F⟩:=aR.out aG;obtain⟨bY,b4,rfl⟩:=L.form;obtain⟨bW,b1,rfl⟩:=k.form;obtain⟨bX,b2,rfl⟩:=K.form;obtain⟨bV,b0,rfl⟩:=F.form;have l:Bx 110 E bx [D aq q.code.length au,D ar q.os.length aw,H I q.ar,H I q.par,al q.nm,D an q.c.length aA,D ai q.a.length ay,D am q.b.length cb,D ao q.e.length aB,D ab q.p.length aD,H I q.bits,J aL,D Q aJ c1,D T aH d1,J aM,D R aK c2,D X aI d2,D aT y0.length cy,az (U ⟨a9,0,none⟩),D bY s.2.ys.length b4,D bW s.2.ks.length b1,D bX s.2.next.length b2,D bV s.2.err.length b0]:=bA;clear bA aR;rw[aG];unfold Z.aG;simp only;have e:=b.c4;have r:=b.free;have f:=a.c4;have p:=a.free;have bH:=l.k 19;have bI:=l.k 20;have bJ:=l.k 21;have bL:=l.k 22;have ce:=cA bH;have cf:=cA bI;have cg:=cA bJ;have ch:=cA bL;have bh:=ez e;have bi:=b.fa;have bj:=ez f;have bl:=a.fa;go_wp2_with fail;clear ce cf cg ch bh bi bj bl;generalize g:ah E _=aO at*;obtain⟨C,j⟩:=aC g;clear g;have cx:=l.lt;have ci:=b.lt;have cj:=a.lt;clear f bH bI bJ bL;revert c b a L k K F l e;refine bE C ?_;intro c b a L k K F l e
  replace r:=b.free;have f:=a.c4;replace p:=a.free;clear C;have P:=j.c4;generalize g:ag (ag (ag (ag aO _ _) _ _) _ _) _ _=bZ at*;have d:=bp b g;clear g;replace L:=L.bs d;replace k:=k.bs d;replace K:=K.bs d;replace F:=F.bs d;replace l:=l.bs d;replace a:=a.bs d;replace j:=j.bs d;replace b:=d.new;replace c:=c.bs d;clear d;clear e f;have e:=b.c4;have f:=a.c4;replace p:=a.free;replace P:=j.c4;generalize g:ag (ag (ag (ag bZ _ _) _ _) _ _) _ _=cl at*;have d:=bp a g;clear g;replace L:=L.bs d;replace k:=k.bs d;replace K:=K.bs d;replace F:=F.bs d;replace l:=l.bs d;replace b:=b.bs d;replace j:=j.bs d;replace a:=d.new;replace c:=c.bs d;clear d;clear e f;have e:=b.c4;have f:=a.c4;replace P:=j.c4;exact a4 (gl rfl rfl rfl tZ t0 bM bN b rfl a rfl) rfl (hN.bV aG c L k K F)
def eh (k A:Nat)(w:O)(x:List W)(r:Z.Tr):Prop:=
 ∃(u v y z:Bool) (a b c d e f g i j:Option am) (p q s t c1 c2 c3 c4 l m n o d1 d2 d3 d4 cy:Nat),x=[J u,D a p c1,D e l d1,J v,D b q c2,D f m d2,J y,D c s c3,D g n d3,J z,D d t c4,D i o d4,D j r.y.length cy,J r.ok]/\
  Qk k w (af #[J u,D a p c1,D e l d1]) r.t/\Qk k w (af #[J v,D b q c2,D f m d2]) r.want/\Qk k w (af #[J y,D c s c3,D g n d3]) r.h/\Qk k w (af #[J z,D d t c4,D i o d4]) r.err/\aF A w (D j r.y.length cy) r.y
theorem eh.mk {r:Z.Tr}{A3 A4 D3 D4:Option am}{n3 n4 c3 c4 m3 m4 d3 d4:Nat}(h1:Qk k w (af #[J s1,D A1 n1 c1,D D1 m1 d1]) r.t)(h2:Qk k w (af #[J s2,D A2 n2 c2,D D2 m2 d2]) r.want)(a:Qk k w (af #[J s3,D A3 n3 c3,D D3 m3 d3]) r.h)(b:Qk k w (af #[J s4,D A4 n4 c4,D D4 m4 d4]) r.err)(c:aF ky w (D YA r.y.length cy) r.y):
 eh k ky w [J s1,D A1 n1 c1,D D1 m1 d1,J s2,D A2 n2 c2,D D2 m2 d2,J s3,D A3 n3 c3,D D3 m3 d3,J s4,D A4 n4 c4,D D4 m4 d4,D YA r.y.length cy,J r.ok] r:=
 ⟨s1,s2,s3,s4,A1,A2,A3,A4,D1,D2,D3,D4,YA,n1,n2,n3,n4,c1,c2,c3,c4,m1,m2,m3,m4,d1,d2,d3,d4,cy,rfl,h1,h2,a,b,c⟩
theorem ev (k o:Nat):Kn 14 69 (eh k o) where
 kw:=λ⟨y,z,A,B,c,d,e,f,g,i,j,l,m,t,u,v,x,c1,c2,c3,c4,p,q,r,s,d1,d2,d3,d4,cy,b,C,E,F,G,K⟩ a=>⟨y,z,A,B,c,d,e,f,g,i,j,l,m,t,u,v,x,c1,c2,c3,c4,p,q,r,s,d1,d2,d3,d4,cy,b,(aR k).kw C a.1,(aR k).kw E a.1,(aR k).kw F a.1,(aR k).kw G a.1,a.own (aR o) (by decide) K⟩
 ok:=λ⟨y,z,A,B,c,d,e,f,g,i,j,l,m,t,u,v,x,c1,c2,c3,c4,p,q,r,s,d1,d2,d3,d4,cy,b,_⟩=>by
  subst b;refine⟨rfl,λD n=> ?_⟩;simp only[List.mem_cons,List.not_mem_nil,or_false]at n;rcases n with rfl|rfl|rfl|rfl|rfl|rfl|rfl|rfl|rfl|rfl|rfl|rfl|rfl|rfl<;>exact⟨trivial,rfl⟩
theorem Qk.up (h:Qk k w v q)(a:V w ab):Qk k ab v q:=(aR k).kw h a.kw
instance Qk.bW {k:Nat} {w ab:O} {v:W} {q:Rat}:Lu (V w ab) (Qk k w v q) (Qk k ab v q):=bu λu h=>h.up u
theorem Qk.qw (h:Qk k w v q):Qw w v q:=h.1
theorem Qk.lq (h:Qk k w v q):E.Lq q k:=h.2
theorem Qk.fr {k:Nat}{w:O}{v:W}{q:Rat}(h:Qk k w v q):Fr w v q k:=h.1.fr h.2
theorem eb {d:W}(h:Ws w u (E.words q.num.natAbs))(k:Ws w d (E.words q.den)):Qw w (af #[J (E.aB q.num),u,d]) q:=⟨_,_,rfl,h,k⟩
theorem Qk.kw {k:Nat}{w ab:O}{v:W}{q:Rat}(h:Qk k w v q)(a:Kw w ab):Qk k ab v q:=(aR k).kw h a
instance Qk.jC {k:Nat} {w ab:O} {v:W} {q:Rat}:Lu (Kw w ab) (Qk k w v q) (Qk k ab v q):=bu λu h=>h.kw u
theorem aF.ne {qs:List Rat}(h:aF k w v qs):v.ownBlock≠U w.heap.size:=λe=>by have:=(aA.lt h _ e).2;omega
def ei (k:Nat)(w:O)(v:W)(qs:List Rat):Prop:=Sq (Qk k) w v qs
theorem ei.up {k:Nat}{w ab:O}{v:W}{qs:List Rat}(h:ei k w v qs)(a:V w ab):ei k ab v qs:=Sq.up (aR k) h a
instance ei.bW {k:Nat} {w ab:O} {v:W} {qs:List Rat}:Lu (V w ab) (ei k w v qs) (ei k ab v qs):=bu λu h=>h.up u
theorem ei.fs {qs:List Rat}(h:ei k w v qs):aU k w v qs:=Sq.imp h λa=>a.1.fr a.2
theorem t3 {xs:List F3}{qs:List Rat}(hb:Bx 53 w g (aS xs))(ha:Al (λx q=>Qk k w x.agg q) xs qs)(a:qs.length<=1000000):ei k w (D (U ⟨g,0,none⟩) qs.length qs.length) qs:=by
 refine⟨U ⟨g,0,none⟩,qs.length,xs,rfl,a8 _,aQ a (by decide),ha,λ_=>⟨g,0,rfl,hb.lt,λc d b=> ?_⟩⟩;rw[Nat.zero_add];exact hb.cell b
theorem CA {d1 u2 d2 u3 d3 u4 d4:W}{q2 q3 q4:Rat}(hb:Bx 53 w g [J s1,u1,d1,J s2,u2,d2,J s3,u3,d3,J s4,u4,d4])(h1:Qk k w (af #[J s1,u1,d1]) q1)(h2:Qk k w (af #[J s2,u2,d2]) q2)(a:Qk k w (af #[J s3,u3,d3]) q3)(b:Qk k w (af #[J s4,u4,d4]) q4):ei k w (D (U ⟨g,0,none⟩) 4 4) [q1,q2,q3,q4]:=
 t3 (xs:=[⟨s1,u1,d1⟩,⟨s2,u2,d2⟩,⟨s3,u3,d3⟩,⟨s4,u4,d4⟩]) hb ((((Al.one (x:=⟨s1,u1,d1⟩) h1).append (Al.one (x:=⟨s2,u2,d2⟩) h2)).append (Al.one (x:=⟨s3,u3,d3⟩) a)).append (Al.one (x:=⟨s4,u4,d4⟩) b)) (by simp)
theorem CB {d1:W}(hb:Bx 53 w g [J s1,u1,d1])(h1:Qk k w (af #[J s1,u1,d1]) q1):ei k w (D (U ⟨g,0,none⟩) 1 1) [q1]:=
 t3 (xs:=[⟨s1,u1,d1⟩]) hb (Al.one (x:=⟨s1,u1,d1⟩) h1) (by simp)
theorem t4 {l m:List Rat}(hb:Bx T w g [u,v])(h1:ei k w u l)(h2:ei k w v m):cU (Qk k) w (D (U ⟨g,0,none⟩) 2 2) [l,m]:=by
 refine⟨U ⟨g,0,none⟩,2,[u,v],rfl,by simp,by decide,rfl,λ_=>⟨g,0,rfl,hb.lt,λc u d=> ?_⟩,λc e i a b=> ?_⟩
 .rw[Nat.zero_add];exact hb.cell d
 .match c with
  |0=>simp at a b;subst a b;exact h1
  |1=>simp at a b;subst a b;exact h2
  |f+2=>simp at a
theorem aF.qs {k:Nat}{w:O}{v:W}{qs:List Rat}(h:aF k w v qs):ei k w v qs:=aA.sq h
theorem ei.mono {j k:Nat}{w:O}{v:W}{qs:List Rat}(h:ei j w v qs)(b:j<=k):ei k w v qs:=Sq.imp h λa=>⟨a.1,a.2.mono b⟩
theorem ei.form {k:Nat}{w:O}{v:W}{qs:List Rat}(h:ei k w v qs):∃a c,v=D a qs.length c:=Sq.form h
def CC (k:Nat)(r:Z.Tr)(w:O)(e:aO)(c:O):Prop:= ∃a b,e=aw (D a 4 b)/\ei k c (D a 4 b) [r.t,r.want,r.h,r.err]/\V w c
theorem t5 {r:Z.Tr}(h:eh k ky w x r):aj ae 109 #[af x.toArray] w (CC k r w):=by
 obtain⟨H,I,J,K,l,m,n,o,p,q,s,t,v,D,E,F,G,c1,c2,c3,c4,z,A,B,C,d1,d2,d3,d4,cy,rfl,a,b,c,d,j⟩:=h;clear j;go_enter func109,ntmps109;go_wp2_with fail;generalize f:ah (ah w _) _=u at*;obtain⟨e,i,g⟩:=br f;clear f;revert a b c d;refine bf e ?_;intro a b c d;have y:=i.c8;have L:=g.iC;go_ret;exact⟨_,_,rfl,CA g a b c d,e⟩
theorem t6 (h:cU (Qk k) w v ls)(ar:ls.length<=1000)(P:Y (∀l∈ls,l.length<=1000))(aq:k<=1000000):aj ae 108 #[v] w λe U=>e=aw (J true)/\V w U:=by
 obtain⟨X,ag,rfl⟩:=h.form;have C:=G h;clear h;go_enter func108,ntmps108;go_wp2_with fail
 go_loopw[4,6,9] (λ_ _ t wr=> ∃a:Nat,t=H I (a:Int)/\a<=ls.length/\V w wr) (λ_ _ t _=>ls.length-(aI t).toNat)
 case atStart=>exact⟨0,rfl,bn _,V.refl w⟩
 case round=>
  obtain⟨a,rfl,an,b⟩:=hrel
  by_cases f:a<ls.length
  .obtain⟨L,T,aB,M,N,j,n⟩:=C.out.at_ f;subst M;have z:_:=(b.cell (p:=⟨L,T+a,none⟩) N).trans j;obtain⟨ab,ak,rfl⟩:=n.form;have F:=G n;have K:=G (P.out ls[a] (cq f));have u:Y (a+1<=ls.length):=G f;generalize ls[a]=d at*;have R:(a:Int)<(ls.length:Int):=by omega
   have Q:(0:Int)<=(a:Int):=by omega
   have S:((a:Int)).toNat=a:=by omega
   have au:=K.out;have x:=G b;clear j n b;go_wp2_with fail;clear R Q S z
   go_loopw[6,15] (λ_ s wr=> ∃c:Nat,s=H I (c:Int)/\c<=d.length/\V w wr) (λ_ s _=>d.length-(aI s).toNat)
   case atStart=>exact⟨0,rfl,bn _,x.out⟩
   case round=>
    clear x;obtain⟨c,rfl,ao,b⟩:=hrel
    by_cases f:c<d.length
    .obtain⟨af,o,az,B,aA,al,ai,ay,am,rfl,hb,j,z,g3,m⟩:=(F.out.up (aR k) b).at_ (aR k) f
     have g:=m.1;have E:=G m.2;clear m;generalize d[c]=r at*;have k1:(c:Int)<(d.length:Int):=by omega
     have av:(0:Int)<=(c:Int):=by omega
     have ax:((c:Int)).toNat=c:=by omega
     go_wp2_with fail;generalize A:ah wr _=Z at*;obtain⟨q,i⟩:=aC A;clear A;replace g:=g.up q;replace b:=b.trans q;clear q;have y:=i.c3
     with_reducible refine(At g E.out (by omega)).mono ?_
     rintro e aa ⟨rfl,u52⟩;revert i g b y;revert u52;refine dW ?_;intro i g b y
     go_wp2_with fail
     go_roundw
     case rel=>exact⟨c+1,by first|rfl|go_num,by omega,b⟩
     case measure=>simp[aI];omega
    .obtain rfl:c=d.length:=by omega
     have k1:¬((d.length:Int)<(d.length:Int)):=by omega
     go_wp2_with fail
     go_roundw
     case rel=>exact⟨a+1,by first|rfl|go_num,u.out,b⟩
     case measure=>have:=u.out;simp[aI];omega
  .obtain rfl:a=ls.length:=by omega
   have k1:¬((ls.length:Int)<(ls.length:Int)):=by omega
   go_wp2;go_ret;exact⟨rfl,b⟩
namespace Z
def follows (r:Tr)(a:Rat)(ys:List Rat):Prop:=if r.ok=true then a=r.t+r.h else(a=r.t/\ys=r.y)
def fW (trs:List Tr)(t:Rat)(i:Nat):Rat:=if a:i+1<trs.length then trs[i+1].t else t
def fX (trs:List Tr)(y:List Rat)(i:Nat):List Rat:=if a:i+1<trs.length then trs[i+1].y else y
structure hO (trs:List Tr) (t:Rat) (y:List Rat):Prop where
 lens:∀r∈trs,r.y.length=y.length
 ar:1<=y.length/\y.length<=6
 many:trs.length<=200
 hg:∀r∈trs,0<r.want/\0<r.h/\r.h<=r.want/\0<=r.err
 chain:∀(i:Nat) (h:i<trs.length),follows trs[i] (fW trs t i) (fX trs y i)
end Z
def ew (k g:Nat)(w:O)(x:List W)(trs:List Z.Tr)(t:Rat)(y:List Rat):Prop:= ∃(b a ai c:Option am) (l:Bool) (e j d i f cy:Nat),x=[D b trs.length e,J l,D a j d,D ai i f,D c y.length cy]/\
 Sn (eh k g) w (D b trs.length e) trs/\Qk k w (af #[J l,D a j d,D ai i f]) t/\aF g w (D c y.length cy) y
theorem ew.up {k ky:Nat}{w ab:O}{x:List W}{trs:List Z.Tr}{t:Rat}{y:List Rat}(h:ew k ky w x trs t y)(a:V w ab):ew k ky ab x trs t y:=by
 obtain⟨f,b,ai,g,s,cT,n,c,j,d,cy,e,h1,h2,i⟩:=h;exact⟨f,b,ai,g,s,cT,n,c,j,d,cy,e,h1.up (ev k ky) a,h2.up a,i.up a⟩
instance ew.bW {k ky:Nat} {w ab:O} {x:List W} {trs:List Z.Tr} {t:Rat} {y:List Rat}:Lu (V w ab) (ew k ky w x trs t y) (ew k ky ab x trs t y):=bu λu h=>h.up u
theorem t7 (h:0<q):¬(E.bU q.num<=0):=by
 have:=of_decide_eq_true ((Pc.jt q).trans (decide_eq_true h));omega
theorem CD (h:0<=q):¬(E.bU q.num<0):=of_decide_eq_false ((Pc.s9 q).trans (decide_eq_false (Rat.not_lt.2 h)))
theorem o5 {a b:Rat}(h:a<=b):¬(E.cI a b>0):=of_decide_eq_false ((Pc.o5 a b).trans (decide_eq_false (Rat.not_lt.2 h)))
theorem CE {trs:List Z.Tr}(h:ew k ky w x trs t y)(L:Y (Z.hO trs t y))(ao:k<=1000000)(aq:ky<=k):aj ae 67 #[af x.toArray] w λe P=>e=aw (J true)/\V w P:=by
 obtain⟨aN,ar,ai,aP,bt,aS,bl,aR,bg,aT,cz,rfl,am,u,s⟩:=h;have aJ:=G am;have aK:=G u;have aL:=G s;clear am u s;go_enter func67,ntmps67;go_wp2_with fail;generalize p:ah w _=bD at*;obtain⟨a,b⟩:=aC p;clear p;have c:=b.c5;have ag:=G a;have X:=G b;clear a b c
 go_loopw[4,8] (λ_ U wr=> ∃i:Nat,U=H I (i:Int)/\i<=trs.length/\Bx 61 wr w.heap.size [D aN trs.length aS,J bt,D ar bl aR,D ai bg aT,D aP y.length cz]/\V w wr) (λ_ U _=>trs.length-(aI U).toNat)
 case atStart=>exact⟨0,rfl,bn _,X.out,ag.out⟩
 case round=>
  clear X ag;obtain⟨i,rfl,bN,b,a⟩:=hrel
  by_cases M:i<trs.length
  .skip;obtain⟨bG,o,x,aU,hb,bf,f⟩:=(aJ.out.up (ev k ky) a).at_ (ev k ky) (by omega) M
   subst aU;have bC:=G (cq M);have ab:=G M;have bO:=L.out.many;have aM:=G (L.out.lens _ (cq M));have Q:=G L.out.ar;generalize trs[i]=r at*;obtain⟨bu,bv,bw,bx,au,ay,az,aA,aB,aE,aF,aG,aO,bo,bp,bq,bs,c1,c2,c3,c4,bh,bi,bj,bk,d1,d2,d3,d4,cy,rfl,j,l,m,n,g⟩:=bf;have al:=f 0 _ rfl;have aY:=f 1 _ rfl;have a6:=f 2 _ rfl;have g3:=f 3 _ rfl;have a7:=f 4 _ rfl;have a8:=f 5 _ rfl;have a9:=f 6 _ rfl;have ba:=f 7 _ rfl;have bb:=f 8 _ rfl;have bd:=f 9 _ rfl;have a1:=f 10 _ rfl;have a2:=f 11 _ rfl;have a4:=f 12 _ rfl;have a5:=f 13 _ rfl;rw[Nat.add_zero]at al;have bQ:(i:Int)<(trs.length:Int):=by omega
   have bP:(0:Int)<=(i:Int):=by omega
   have bR:((i:Int)).toNat=i:=by omega
   clear f;have c:=b.c5;have T:=ez c;go_wp2_with fail;clear T;generalize p:ah wr _=R at*;obtain⟨A,d⟩:=aC p;clear p;have bK:=b.lt;revert a b j l m n g c;revert A;refine el ?_;intro a b j l m n g c
   have N:=d.c8;clear al aY a6 g3 a7 a8 a9 ba bb bd a1 a2 a4 a5;revert d a b j l m n g c;refine bE (V.refl R).drew ?_;intro d a b j l m n g c
   replace N:=d.c8;refine aZ ?_;refine a3 (S:=λP=>V w P/\Cz P (wr.heap.size) 0 [J bu,D au bo c1,D aB bh d1,J bv,D ay bp c2,D aE bi d2,J bw,D az bq c3,D aF bj d3,J bx,D aA bs c4,D aG bk d4,D aO r.y.length cy,J r.ok]) (by kernel_rfl) (by exact⟨a,d.cz⟩) (λz=> ?_);generalize R.drew=E at*;refine aa 0 ?_;refine aa 2 ?_;refine aa 3 ?_
   repeat' first
    |refine aa 6 ?_
    |refine ak [1] ?_
    |refine ak [4] ?_
    |refine ak [5] ?_
    |refine av (i:=1) rfl (λC aD=> ?_) ?_
    |refine av (i:=4) rfl (λC aH=> ?_) ?_
    |refine av (i:=5) rfl (λC aV=> ?_) ?_
    |exact bm
    |(have q:=aD;clear aD
      (try clear z)
      go_simp;go_at_call 109
      with_reducible refine(t5 (eh.mk (r:=r) j l m n g)).mono ?_
      rintro e E ⟨bB,bL,rfl,nm,v⟩;revert d a b j l m n g c;refine bE v ?_;intro d a b j l m n g c
      try(replace B:=B.up v)
      replace N:=d.c8;clear v
      try go_wp2_with fail
      refine ax q (by exact⟨a,d.cz⟩) (λz=> ?_);clear q C)
    |(have q:=aH;clear aH
      (try clear z)
      go_simp;have bH:=b.lt;have bV:=d.lt;have bT:=a.size;generalize an:E.heap.size=bM at*;generalize p:ah E _=E at*;obtain⟨A,B⟩:=b3 p an;clear p an;revert d a b j l m n g c;refine bE A ?_;intro d a b j l m n g c
      try(replace nm:=nm.up A)
      replace N:=d.c8;clear A;refine ax q (by exact⟨a,d.cz⟩) (λz=> ?_);clear q C)
    |(have q:=aV;clear aV
      (try clear z)
      go_simp;go_at_call 108
      with_reducible refine(t6 (t4 B nm (g.qs.mono aq)) (by simp) (G (by have:=aM.out;have:=Q.out;simp;omega)) ao).mono ?_
      rintro e E ⟨rfl,v⟩;revert d a b j l m n g c;refine bE v ?_;intro d a b j l m n g c
      try(replace nm:=nm.up v)
      try(replace B:=B.up v)
      replace N:=d.c8;clear v
      try go_wp2_with fail
      refine ax q (by exact⟨a,d.cz⟩) (λz=> ?_);clear q C)
    |refine aW (by decide +kernel) (aX ?_) _
    |fail
   all_goals try clear z
   all_goals have bU:=B.c2
   all_goals
    go_wp2_with fail
    go_roundw
    case rel=>exact⟨i+1,by first|rfl|go_num,ab.out,b,a⟩
    case measure=>have:=ab.out;simp[aI];omega
  .obtain rfl:i=trs.length:=by omega
   have k1:¬((trs.length:Int)<(trs.length:Int)):=by omega
   have Q:=G L.out.ar;have u:=aK.out.up a;have s:=aL.out.up a;have c:=b.c5;have T:=ez c;have aQ:=f1 c;go_wp2_with fail;clear T aQ;generalize p:ah (ah wr _) _=R at*;obtain⟨A,F,K⟩:=br p;clear p;have bI:=b.lt;have bJ:=b.lt;revert b a u s c;revert A;refine dH ?_;intro b a u s c
   have bz:=F.c3;have bA:=K.c2
   with_reducible refine(t6 (t4 K (CB F u) (s.qs.mono aq)) (by simp) (G (by have:=Q.out;simp;omega)) ao).mono ?_
   rintro e bF ⟨rfl,u52⟩;revert F K b a u s c;refine bS u52 ?_;intro F K b a u s c
   replace bz:=F.c3;replace bA:=K.c2;clear u52;go_wp2;go_ret;exact⟨rfl,a⟩
theorem CF {trs:List Z.Tr}(h:ew k ky w x trs t y)(j:Y (Z.hO trs t y)):aj ae 68 #[af x.toArray] w λe aB=>e=aw (J true)/\V w aB:=by
 obtain⟨C,z,ai,E,az,L,ax,K,av,M,cz,rfl,s,v,u⟩:=h;have A:=G s;have aN:=G v;have aO:=G u;clear s v u;go_enter func68,ntmps68;go_wp2_with fail;generalize g:ah w _=aP at*;obtain⟨d,c⟩:=aC g;clear g;have f:=c.c5;have p:=G d;have m:=G c;clear d c f
 go_loopw[4,8] (λ_ l wr=> ∃b:Nat,l=H I (b:Int)/\b<=trs.length/\Bx 61 wr w.heap.size [D C trs.length L,J az,D z ax K,D ai av M,D E y.length cz]/\V w wr) (λ_ l _=>trs.length-(aI l).toNat)
 case atStart=>exact⟨0,rfl,bn _,m.out,p.out⟩
 case round=>
  clear m p;obtain⟨b,rfl,aV,c,d⟩:=hrel
  by_cases i:b<trs.length
  .skip;obtain⟨aS,o,x,N,hb,au,a⟩:=(A.out.up (ev k ky) d).at_ (ev k ky) (by omega) i
   subst N;have aM:=G (cq i);have n:=G i;have aW:=j.out.many;have B:=G (j.out.lens _ (cq i));generalize trs[b]=r at*;obtain⟨bb,bd,bf,bg,aD,aE,aF,aG,aH,aJ,aK,aL,aR,a7,a8,a9,ba,c1,c2,c3,c4,a3,a4,a5,a6,d1,d2,d3,d4,cy,rfl,am,an,ao,aq,ar⟩:=au;have q:=a 0 _ rfl;have P:=a 1 _ rfl;have U:=a 2 _ rfl;have g3:=a 3 _ rfl;have X:=a 4 _ rfl;have aa:=a 5 _ rfl;have ab:=a 6 _ rfl;have ag:=a 7 _ rfl;have ak:=a 8 _ rfl;have al:=a 9 _ rfl;have Q:=a 10 _ rfl;have R:=a 11 _ rfl;have S:=a 12 _ rfl;have T:=a 13 _ rfl;rw[Nat.add_zero]at q;have aY:(b:Int)<(trs.length:Int):=by omega
   have aX:(0:Int)<=(b:Int):=by omega
   have aZ:((b:Int)).toNat=b:=by omega
   clear a;clear am an ao aq ar;have a2:((r.y.length:Int) !=(y.length:Int))=false:=by rw[bne_eq_false_iff_eq,B.out]
   have f:=c.c5;have F:=ez f;go_upto_region 4 with fail
   clear F;generalize g:ah wr _=aQ at*;obtain⟨ay,aA⟩:=aC g;clear g;have aT:=c.lt;revert d c f;revert ay;refine bX ?_;intro d c f
   have bh:=aA.c8;clear q P U g3 X aa ab ag ak al Q R S T;go_wp2_with fail
   go_roundw
   case rel=>exact⟨b+1,by first|rfl|go_num,n.out,c,d⟩
   case measure=>have:=n.out;simp[aI];omega
  .obtain rfl:b=trs.length:=by omega
   have k1:¬((trs.length:Int)<(trs.length:Int)):=by omega
   have aU:=j.out.ar;have k2:(y.length:Int)>=1:=by omega
   have a1:(y.length:Int)<=6:=by omega
   have f:=c.c5;go_wp2;go_ret;exact⟨rfl,d⟩
theorem CG {trs:List Z.Tr}(h:ew k ky w x trs t y)(P:Y (Z.hO trs t y))(ba:k<=1000000):aj ae 69 #[af x.toArray] w λe aN=>e=aw (J true)/\V w aN:=by
 obtain⟨T,R,ai,U,aM,ab,aG,aa,aF,ag,cz,rfl,M,Q,N⟩:=h;have S:=G M;have aX:=G Q;have aY:=G N;clear M Q N;go_enter func69,ntmps69;go_wp2_with fail;generalize n:ah w _=aZ at*;obtain⟨b,a⟩:=aC n;clear n;have d:=a.c5;have A:=G b;have v:=G a;clear b a d
 go_loopw[4,8] (λ_ u wr=> ∃l:Nat,u=H I (l:Int)/\l<=trs.length/\Bx 61 wr w.heap.size [D T trs.length ab,J aM,D R aG aa,D ai aF ag,D U y.length cz]/\V w wr) (λ_ u _=>trs.length-(aI u).toNat)
 case atStart=>exact⟨0,rfl,bn _,v.out,A.out⟩
 case round=>
  clear v A;obtain⟨l,rfl,a9,a,b⟩:=hrel
  by_cases q:l<trs.length
  .skip;obtain⟨a7,o,x,ak,hb,aE,c⟩:=(S.out.up (ev k ky) b).at_ (ev k ky) (by omega) q
   subst ak;have aW:=G (cq q);have z:=G q;have bb:=P.out.many;have p:=G (P.out.hg _ (cq q));generalize trs[l]=r at*;have q1:=t7 p.out.1;have aJ:=t7 p.out.2.1;have aK:=o5 p.out.2.2.1;have aL:=CD p.out.2.2.2;obtain⟨bu,B⟩:∃m,Y (E.bU r.want.num=m):=⟨_,G rfl⟩;obtain⟨bv,C⟩:∃m,Y (E.bU r.h.num=m):=⟨_,G rfl⟩;obtain⟨bw,F⟩:∃m,Y (E.cI r.h r.want=m):=⟨_,G rfl⟩;obtain⟨bx,K⟩:∃m,Y (E.bU r.err.num=m):=⟨_,G rfl⟩;rw[B.out]at q1;rw[C.out]at aJ;rw[F.out]at aK;rw[K.out]at aL;obtain⟨bq,br,bs,bt,aO,aP,aQ,aR,aS,aT,aU,aV,a6,bl,bm,bo,bp,c1,c2,c3,c4,bh,bi,bj,bk,d1,d2,d3,d4,cy,rfl,aB,g,i,j,aD⟩:=aE;have L:=c 0 _ rfl;have al:=c 1 _ rfl;have ar:=c 2 _ rfl;have g3:=c 3 _ rfl;have au:=c 4 _ rfl;have av:=c 5 _ rfl;have ax:=c 6 _ rfl;have ay:=c 7 _ rfl;have az:=c 8 _ rfl;have aA:=c 9 _ rfl;have am:=c 10 _ rfl;have an:=c 11 _ rfl;have ao:=c 12 _ rfl;have aq:=c 13 _ rfl;rw[Nat.add_zero]at L;have bf:(l:Int)<(trs.length:Int):=by omega
   have bd:(0:Int)<=(l:Int):=by omega
   have bg:((l:Int)).toNat=l:=by omega
   clear c;clear aB aD;have d:=a.c5;have X:=ez d;go_wp2_with fail;clear X;generalize n:ah wr _=a1 at*;obtain⟨aH,f⟩:=aC n;clear n;have a8:=a.lt;revert b a g i j d;revert aH;refine dX ?_;intro b a g i j d
   have s:=f.c8;clear L al ar g3 au av ax ay az aA am an ao aq
   with_reducible refine(fQ g.fr (by omega)).mono ?_
   rintro e a2 ⟨rfl,u52⟩;revert f b a g i j d;refine bS u52 ?_;intro f b a g i j d
   replace s:=f.c8;clear u52;rw[B.out];go_wp2_with fail
   with_reducible refine(fQ i.fr (by omega)).mono ?_
   rintro e a3 ⟨rfl,u53⟩;revert f b a g i j d;refine bS u53 ?_;intro f b a g i j d
   replace s:=f.c8;clear u53;rw[C.out];go_wp2_with fail
   with_reducible refine(f9 i.fr g.fr (by omega) (by omega)).mono ?_
   rintro e a4 ⟨rfl,u54⟩;revert f b a g i j d;refine bS u54 ?_;intro f b a g i j d
   replace s:=f.c8;clear u54;rw[F.out];go_wp2_with fail
   with_reducible refine(fQ j.fr (by omega)).mono ?_
   rintro e a5 ⟨rfl,u55⟩;revert f b a g i j d;refine bS u55 ?_;intro f b a g i j d
   replace s:=f.c8;clear u55;rw[K.out];go_wp2_with fail
   go_roundw
   case rel=>exact⟨l+1,by first|rfl|go_num,z.out,a,b⟩
   case measure=>have:=z.out;simp[aI];omega
  .obtain rfl:l=trs.length:=by omega
   have k1:¬((trs.length:Int)<(trs.length:Int)):=by omega
   go_wp2;go_ret;exact⟨rfl,b⟩
theorem t8 {r:Z.Tr}{a:Rat}{ys:List Rat}{va:W}(h:eh k ky w x r)(ha:Qk k w va a)(ay:aU ky w vy ys)(aQ:Y (Z.follows r a ys))(a8:ys.length<=1000)(bk:k<=1000000)(bl:ky<=1000000):
 aj ae 110 #[af x.toArray,va,vy] w λe c=>e=aw (J true)/\V w c:=by
 obtain⟨aH,aI,aJ,aK,ab,ag,ai,ak,al,am,an,ao,ax,aD,aE,aF,aG,c1,c2,c3,c4,az,aA,aB,aC,d1,d2,d3,d4,cy,rfl,d,a6,f,a7,aP⟩:=h;obtain⟨a9,rfl,⟨M,T,c5,aN⟩,⟨N,R,d5,aO⟩⟩:=(aR k).form ha;obtain⟨X,u0,bj⟩:=a9;simp only at aN aO;subst aN aO;obtain⟨aL,aM,rfl⟩:=ay.form;have g:Qk k w (af #[J X,D M T c5,D N R d5]) a:=ha;have a1:=G ay;have a2:=G aP;clear ha ay a6 a7 aP;cases aS:r.ok
 .have I:Y (a=r.t/\ys=r.y):=G (by have:=aQ.out;unfold Z.follows at this;rw[aS]at this;simpa using this);have aq:Y (decide (a=r.t)=true):=G (decide_eq_true I.out.1);have aV:Y (decide (ys=r.y)=true):=G (decide_eq_true I.out.2);have aY:Y (r.y.length<=1000):=G (by rw[<-I.out.2];exact a8);have bm:=aY.out;show aj ae 110 #[af #[J aH,D ab aD c1,D al az d1,J aI,D ag aE c2,D am aA d2,J aJ,D ai aF c3,D an aB d3,J aK,D ak aG c4,D ao aC d4,D ax r.y.length cy,J false],af #[J X,D M T c5,D N R d5],D aL ys.length aM] w _;go_enter func110,ntmps110;go_wp2_with fail;generalize L:ah (ah w _) _=av at*;obtain⟨b,B,i⟩:=br L;clear L;revert d f g;refine bo b ?_;intro d f g
  obtain⟨j,l,q,s,t,u,v,y,z,A,m,n,o,p⟩:=B.c8;have P:=i.c3
  with_reducible refine(ic g.fr d.fr (by omega) (by omega)).mono ?_
  rintro e a4 ⟨rfl,u1⟩;revert b B i d f g j l q s t u;refine au u1 ?_;intro b B i d f g j l q s t u;revert v y z A m n o p;refine b9 u1 ?_;intro v y z A m n o p
  replace P:=i.c3;clear u1;rw[aq.out];go_wp2_with fail
  with_reducible refine(Av (a1.out.up b).sq (a2.out.up b).fs.sq (by omega) (by omega) (by omega)).mono ?_
  rintro e a5 ⟨rfl,u2⟩;revert b B i d f g j l q s t u;refine au u2 ?_;intro b B i d f g j l q s t u;revert v y z A m n o p;refine b9 u2 ?_;intro v y z A m n o p
  replace P:=i.c3;clear u2;rw[aV.out];go_wp2;go_ret;exact⟨rfl,b⟩
 .skip;have I:Y (a=r.t+r.h):=G (by have:=aQ.out;unfold Z.follows at this;rw[aS]at this;simpa using this);have aq:Y (decide (a=r.t+r.h)=true):=G (decide_eq_true I.out);show aj ae 110 #[af #[J aH,D ab aD c1,D al az d1,J aI,D ag aE c2,D am aA d2,J aJ,D ai aF c3,D an aB d3,J aK,D ak aG c4,D ao aC d4,D ax r.y.length cy,J true],af #[J X,D M T c5,D N R d5],D aL ys.length aM] w _;go_enter func110,ntmps110;go_wp2_with fail;generalize L:ah (ah w _) _=av at*;obtain⟨b,B,i⟩:=br L;clear L;revert d f g;refine bo b ?_;intro d f g
  obtain⟨j,l,q,s,t,u,v,y,z,A,m,n,o,p⟩:=B.c8;have P:=i.c3;obtain⟨C,E,F⟩:=P;revert b B i d f g j l q s t u;refine au (V.refl av).drew ?_;intro b B i d f g j l q s t u;revert v y z A m n o p C E F;refine bC (V.refl av).drew ?_;intro v y z A m n o p C E F
  refine aZ ?_;refine a3 (S:=λc=>V w c/\c.cell? ⟨w.heap.size,0,none⟩=U (J aH)/\c.cell? ⟨w.heap.size,1,none⟩=U (D ab aD c1)/\c.cell? ⟨w.heap.size,2,none⟩=U (D al az d1)/\c.cell? ⟨w.heap.size,3,none⟩=U (J aI)/\c.cell? ⟨w.heap.size,4,none⟩=U (D ag aE c2)/\c.cell? ⟨w.heap.size,5,none⟩=U (D am aA d2)/\c.cell? ⟨w.heap.size,6,none⟩=U (J aJ)/\c.cell? ⟨w.heap.size,7,none⟩=U (D ai aF c3)/\c.cell? ⟨w.heap.size,8,none⟩=U (D an aB d3)/\c.cell? ⟨w.heap.size,9,none⟩=U (J aK)/\c.cell? ⟨w.heap.size,10,none⟩=U (D ak aG c4)/\c.cell? ⟨w.heap.size,11,none⟩=U (D ao aC d4)/\c.cell? ⟨w.heap.size,12,none⟩=U (D ax r.y.length cy)/\c.cell? ⟨w.heap.size,13,none⟩=U (J true)/\c.cell? ⟨w.heap.size+1,0,none⟩=U (J X)/\c.cell? ⟨w.heap.size+1,1,none⟩=U (D M T c5)/\c.cell? ⟨w.heap.size+1,2,none⟩=U (D N R d5)) (by kernel_rfl) ?_ (λQ=> ?_)
  .with_reducible exact⟨b,j,l,q,s,t,u,v,y,z,A,m,n,o,p,C,E,F⟩
  refine aa 0 ?_;refine aa 1 ?_;refine aa 2 ?_;refine aa 3 ?_;refine aa 4 ?_;refine bZ 5 (λar K=> ?_);go_simp
  (first
    |(go_at_call 61
      with_reducible refine(gc d.fr f.fr (by omega) (by omega)).mono ?_
      rintro e a4 ⟨bd,rfl,H,u1⟩;revert b B i d f g j l q s t u;refine au u1 ?_;intro b B i d f g j l q s t u;revert v y z A m n o p C E F;refine bC u1 ?_;intro v y z A m n o p C E F
      try(replace H:=H.up u1)
      clear u1;obtain⟨bf,bh,rfl,H,aT⟩:=H;obtain⟨ba,bn,cz,rfl⟩:=H.shape;obtain⟨bb,bp,bi,rfl⟩:=aT.shape))
  try go_wp2_with fail
  try clear Q
  refine K.out _ _ ?_ (λQ=> ?_)
  .with_reducible exact⟨b,j,l,q,s,t,u,v,y,z,A,m,n,o,p,C,E,F⟩
  clear K ar
  try simp only[bc,bg]
  refine bZ 6 (λar K=> ?_);go_simp
  (first
    |(go_at_call 11
      with_reducible refine(ic g.fr ((eb H aT).fr (d.lq.add f.lq)) (by omega) (by omega)).mono ?_
      rintro e a5 ⟨rfl,u2⟩;revert b B i d f g j l q s t u;refine au u2 ?_;intro b B i d f g j l q s t u;revert v y z A m n o p C E F;refine bC u2 ?_;intro v y z A m n o p C E F
      try(replace H:=H.up u2)
      clear u2;rw[aq.out]))
  try go_wp2_with fail
  try clear Q
  refine K.out _ _ ?_ (λQ=> ?_)
  .with_reducible exact⟨b,j,l,q,s,t,u,v,y,z,A,m,n,o,p,C,E,F⟩
  clear K ar
  try simp only[bc,bg]
  refine aa 7 ?_;refine aW (by kernel_rfl) ?_ _;refine aX ?_;go_wp2;go_ret;exact⟨rfl,b⟩
theorem CH {trs:List Z.Tr}(h:ew k ky w x trs t y)(T:Y (Z.hO trs t y))(bo:k<=1000000)(bp:ky<=1000000):aj ae 70 #[af x.toArray] w λe z=>e=aw (J true)/\V w z:=by
 obtain⟨bz,am,ai,ar,aS,aB,aR,az,aQ,aH,cz,rfl,bj,l,j⟩:=h;have a5:=G bj;have bu:=G l;have bv:=G j;clear bj l j;go_enter func70,ntmps70;go_wp2_with fail;generalize B:ah w _=cr at*;obtain⟨a,b⟩:=aC B;clear B;have m:=b.c5;have a6:=G a;have aY:=G b;clear a b m
 go_loopw[3,4,5,6,10] (λ_ _ _ _ aT wr=> ∃i:Nat,aT=H I (i:Int)/\i<=trs.length/\Bx 61 wr w.heap.size [D bz trs.length aB,J aS,D am aR az,D ai aQ aH,D ar y.length cz]/\V w wr) (λ_ _ _ _ aT _=>trs.length-(aI aT).toNat)
 case atStart=>exact⟨0,rfl,bn _,aY.out,a6.out⟩
 case round=>
  clear aY a6;obtain⟨i,rfl,cF,b,a⟩:=hrel;have cG:=T.out.many
  by_cases aP:i<trs.length
  .obtain⟨A,o,x,aJ,hb,b2,c⟩:=(a5.out.up (ev k ky) a).at_ (ev k ky) (by omega) aP
   subst aJ;have Q:=G aP;have a1:=G (T.out.chain i aP);have a2:=G T.out.ar;generalize trs[i]=r at*;obtain⟨c7,c8,c9,da,cc,cd,ce,cf,cj,ck,cl,cm,ct,cW,cX,cY,cZ,c1,c2,c3,c4,cN,cO,cP,cQ,d1,d2,d3,d4,cy,rfl,q,s,u,v,n⟩:=b2;have bg:=c 0 _ rfl;have bO:=c 1 _ rfl;have bT:=c 2 _ rfl;have g3:=c 3 _ rfl;have bU:=c 4 _ rfl;have bV:=c 5 _ rfl;have bW:=c 6 _ rfl;have bX:=c 7 _ rfl;have bY:=c 8 _ rfl;have bZ:=c 9 _ rfl;have bP:=c 10 _ rfl;have bQ:=c 11 _ rfl;have bR:=c 12 _ rfl;have bS:=c 13 _ rfl;rw[Nat.add_zero]at bg;have cI:(i:Int)<(trs.length:Int):=by omega
   have cH:(0:Int)<=(i:Int):=by omega
   have cJ:((i:Int)).toNat=i:=by omega
   clear c;have l:=bu.out.up a;have j:=bv.out.up a;have m:=b.c5;have bD:=ez m;go_upto_region 4 with fail
   clear bD;generalize B:ah wr _=a7 at*;obtain⟨P,d⟩:=aC B;clear B;have cv:=b.lt;revert a b q s u v n l j m;refine bw P ?_;intro a b q s u v n l j m;clear P
   have L:=d.c8;clear bg bO bT g3 bU bV bW bX bY bZ bP bQ bR bS;revert d a b q s u v n l j m;refine bC (V.refl a7).drew ?_;intro d a b q s u v n l j m
   replace L:=d.c8;refine aZ ?_;refine a3 (S:=λz=>V w z/\Cz z (w.heap.size) 0 [D (U ⟨A,o,none⟩) trs.length aB,J aS,D am aR az,D ai aQ aH,D ar y.length cz]) (by kernel_rfl) (by exact⟨a,b.cz⟩) (λF=> ?_);generalize a7.drew=C at*;refine aa 0 ?_;refine aa 1 ?_;refine aa 2 ?_;refine aa 3 ?_
   repeat' first
    |refine aa 6 ?_
    |refine ak [4] ?_
    |refine ak [5] ?_
    |refine ak [5] ?_
    |refine av (i:=4) rfl (λN bq=> ?_) ?_
    |refine av (i:=5) rfl (λN bB=> ?_) ?_
    |exact bm
    |(have K:=bq;clear bq
      (try clear F)
      go_simp;have cw:=b.lt;have de:=d.lt;have ca:=a.size;have bh:=n.ne;have bk:=j.ne;generalize bl:C.heap.size=b0 at*;generalize B:ah C _=C at*;obtain⟨P,f⟩:=b3 B bl;clear B bl;revert d a b q s u v n l j m;refine bC P ?_;intro d a b q s u v n l j m
      replace L:=d.c8;clear P;refine ax K (by exact⟨a,b.cz⟩) (λF=> ?_);clear K N)
    |(have K:=bB;clear bB
      (try clear F)
      obtain⟨aD,aE,aF⟩:=f.c3;have aL:=f.free 0;have aM:=f.free 1;have aN:=f.free 2;go_simp;clear aD aE aF aL aM aN;generalize B:ag (ag (ag C _ _) _ _) _ _=C at*;have g:=dh f B;clear B;revert q s u v;refine bf g.kw ?_;intro q s u v
      replace n:=n.eF g bh;replace l:=l.kw g.kw;replace j:=j.eF g bk;replace b:=b.bs g;replace d:=d.bs g;replace f:=g.new;replace a:=a.bs g;clear g;clear m;have m:=b.c5;replace L:=d.c8;refine ax K (by exact⟨a,b.cz⟩) (λF=> ?_);clear K N)
    |refine aW (by decide +kernel) (aX ?_) _
    |fail
   all_goals try clear F
   all_goals have ab:=f.c3
   by_cases M:i+1<trs.length
   .obtain⟨cu,c6,df,aJ,R,b4,c⟩:=a5.out.at_ (ev k ky) (by omega) M;cases aJ;have ao:Y (Z.fW trs t i=trs[i+1].t):=G (by unfold Z.fW;rw[dif_pos M]);have aq:Y (Z.fX trs y i=trs[i+1].y):=G (by unfold Z.fX;rw[dif_pos M]);have bx:=G (T.out.lens _ (cq M));have an:Y (Z.follows r trs[i+1].t trs[i+1].y):=G (by have aO:=a1.out;rwa [ao.out,aq.out]at aO);generalize trs[i+1]=X at*;obtain⟨bt,db,sc,dd,aU,cg,ch,ci,aV,cn,co,cp,ay,bs,c0,c5,nd,a8,cb,cx,cA,br,cS,cU,cV,a9,cB,fT,cC,aG,rfl,q1,b6,b7,b8,E⟩:=b4;have aK:=c 0 _ rfl;have ba:=c 1 _ rfl;have bd:=c 2 _ rfl;have bH:=c 3 _ rfl;have bI:=c 4 _ rfl;have bJ:=c 5 _ rfl;have bK:=c 6 _ rfl;have bL:=c 7 _ rfl;have bM:=c 8 _ rfl;have bN:=c 9 _ rfl;have bE:=c 10 _ rfl;have bF:=c 11 _ rfl;have bb:=c 12 _ rfl;have bG:=c 13 _ rfl;rw[Nat.add_zero]at aK;clear bH bI bJ bK bL bM bN bE bF bG b6 b7 b8 c;have b5:(i:Int)+1<(trs.length:Int):=by omega
    have cK:(0:Int)<=(i:Int)+1:=by omega
    have cL:((i:Int)+1).toNat=i+1:=by omega
    have b1:X.y.length<=6:=by rw[bx.out];exact a2.out.2
    have a4:Y (∀z,V w z->z.cell? ⟨A,o+(i+1)*14,none⟩=U (J bt)/\z.cell? ⟨A,o+(i+1)*14+1,none⟩=U (D aU bs a8)/\z.cell? ⟨A,o+(i+1)*14+2,none⟩=U (D aV br a9)/\z.cell? ⟨A,o+(i+1)*14+12,none⟩=U (D ay X.y.length aG)):=G λz al=>⟨(al.cell (p:=⟨A,o+(i+1)*14,none⟩) R).trans aK,(al.cell (p:=⟨A,o+(i+1)*14+1,none⟩) R).trans ba,(al.cell (p:=⟨A,o+(i+1)*14+2,none⟩) R).trans bd,(al.cell (p:=⟨A,o+(i+1)*14+12,none⟩) R).trans bb⟩
    clear aK ba bd bb
    have b9:(D ay X.y.length aG).ownBlock≠U b0:=λe=>by
     have cE:=(aA.lt E _ e).2;have cD:=ca;omega
    replace q1:=q1.up a;replace E:=E.up a;go_wp2_with fail;have cM:IntKind.i64.wrap ((i:Int)+1)=(i:Int)+1:=IntWalk.i64_in _ (by omega);revert q s u v n l j b d f q1 E;refine au (V.refl C).drew ?_;intro q s u v n l j b d f q1 E;revert a m;refine cR (V.refl C).drew ?_;intro a m
    replace L:=d.c8;replace ab:=f.c3;refine aZ ?_;refine a3 (S:=λz=>V w z/\Cz z (w.heap.size) 0 [D (U ⟨A,o,none⟩) trs.length aB,J aS,D am aR az,D ai aQ aH,D ar y.length cz]/\(z.cell? ⟨A,o+(i+1)*14,none⟩=U (J bt)/\z.cell? ⟨A,o+(i+1)*14+1,none⟩=U (D aU bs a8)/\z.cell? ⟨A,o+(i+1)*14+2,none⟩=U (D aV br a9)/\z.cell? ⟨A,o+(i+1)*14+12,none⟩=U (D ay X.y.length aG))) (by kernel_rfl) (by exact⟨a,b.cz,a4.out _ a⟩) (λF=> ?_);generalize C.drew=C at*;refine aa 0 ?_;refine aa 1 ?_;refine aa 2 ?_;refine aa 3 ?_;refine aa 4 ?_;refine aa 5 ?_;refine aa 6 ?_;refine aa 7 ?_;refine aa 8 ?_;refine aa 9 ?_;refine aa 10 ?_;refine aa 11 ?_;refine aa 12 ?_;refine aa 13 ?_
    repeat' first
     |refine aa 15 ?_
     |refine ak [14] ?_
     |refine ak [14] ?_
     |refine av (i:=14) rfl (λN bi=> ?_) ?_
     |exact bm
     |(have K:=bi;clear bi
       (try clear F)
       obtain⟨aD,aE,aF⟩:=f.c3;have aL:=f.free 0;have aM:=f.free 1;have aN:=f.free 2;go_simp;clear aD aE aF aL aM aN;generalize B:ag (ag (ag C _ _) _ _) _ _=C at*;have g:=dh f B;clear B;revert q s u v;refine bf g.kw ?_;intro q s u v
       replace n:=n.eF g bh;replace l:=l.kw g.kw;replace j:=j.eF g bk;replace q1:=q1.kw g.kw;replace E:=E.eF g b9;replace b:=b.bs g;replace d:=d.bs g;replace f:=g.new;replace a:=a.bs g;clear g;clear m;have m:=b.c5;replace L:=d.c8;replace ab:=f.c3;refine ax K (by exact⟨a,b.cz,a4.out _ a⟩) (λF=> ?_);clear K N)
     |refine aW (by decide +kernel) (aX ?_) _
     |fail
    all_goals try clear F
    go_wp2_with fail
    with_reducible refine(t8 (eh.mk (r:=r) q s u v n) q1 E.fs an (by omega) bo bp).mono ?_
    rintro e bA ⟨rfl,u52⟩;revert q s u v n l j q1 E b d f;refine au u52 ?_;intro q s u v n l j q1 E b d f;revert a m;refine cR u52 ?_;intro a m
    replace L:=d.c8;replace ab:=f.c3;clear u52;go_wp2_with fail
    go_roundw
    case rel=>exact⟨i+1,by first|rfl|go_num,Q.out,b,a⟩
    case measure=>have:=Q.out;simp[aI];omega
   .skip;have ao:Y (Z.fW trs t i=t):=G (by unfold Z.fW;rw[dif_neg M]);have aq:Y (Z.fX trs y i=y):=G (by unfold Z.fX;rw[dif_neg M]);have an:Y (Z.follows r t y):=G (by have aO:=a1.out;rwa [ao.out,aq.out]at aO);have b5:¬((i:Int)+1<(trs.length:Int)):=by omega
    have b1:=a2.out;go_wp2_with fail
    with_reducible refine(t8 (eh.mk (r:=r) q s u v n) l j.fs an (by omega) bo bp).mono ?_
    rintro e bA ⟨rfl,u52⟩;revert q s u v n l j b d f a m;refine au u52 ?_;intro q s u v n l j b d f a m
    replace L:=d.c8;replace ab:=f.c3;clear u52;go_wp2_with fail
    go_roundw
    case rel=>exact⟨i+1,by first|rfl|go_num,Q.out,b,a⟩
    case measure=>have:=Q.out;simp[aI];omega
  .obtain rfl:i=trs.length:=by omega
   have k1:¬((trs.length:Int)<(trs.length:Int)):=by omega
   go_wp2;go_ret;exact⟨rfl,a⟩
theorem CI {trs:List Z.Tr}(h:ew k ky w x trs t y)(d:Y (Z.hO trs t y))(g:k<=1000000)(j:ky<=k):aj ae 37 #[af x.toArray] w λe p=>e=aw (H I 0)/\V w p:=by
 have f:=G h;have n:ky<=1000000:=aQ j g;obtain⟨r,q,ai,B,M,E,L,C,K,F,cz,rfl,l,o,m⟩:=h;clear l o m;have J:¬((trs.length:Int)>200):=by have:=d.out.many;omega
 go_enter func37,ntmps37;go_wp2_with fail;generalize i:ah w _=s at*;obtain⟨a,b⟩:=aC i;clear i;have c:=b.c5
 with_reducible refine(CE (f.out.up a) d g j).mono ?_
 rintro e u ⟨rfl,u1⟩;revert a b c;revert u1;refine bX ?_;intro a b c;go_wp2_with fail
 with_reducible refine(CF (f.out.up a) d).mono ?_
 rintro e v ⟨rfl,u2⟩;revert a b c;revert u2;refine bX ?_;intro a b c;go_wp2_with fail
 with_reducible refine(CG (f.out.up a) d g).mono ?_
 rintro e z ⟨rfl,u3⟩;revert a b c;revert u3;refine bX ?_;intro a b c;go_wp2_with fail
 with_reducible refine(CH (f.out.up a) d g n).mono ?_
 rintro e A ⟨rfl,u4⟩;revert a b c;revert u4;refine bX ?_;intro a b c;go_wp2;go_ret;exact⟨rfl,a⟩
theorem t9 {trs:List Z.Tr}(h:ew k ky w x trs t y)(m:Y (Z.hO trs t y))(j:k<=1000000)(l:ky<=k):aj ae 9 #[af x.toArray] w λe o=>e=aw (J true)/\V w o:=by
 have f:=G h;obtain⟨q,p,ai,u,E,z,C,v,B,A,cz,rfl,g,n,i⟩:=h;clear g n i;go_enter func9,ntmps9;go_wp2_with fail;generalize d:ah w _=r at*;obtain⟨a,b⟩:=aC d;clear d;have c:=b.c5
 with_reducible refine(CI (f.out.up a) m j l).mono ?_
 rintro e s ⟨rfl,u1⟩;revert a b c;revert u1;refine bX ?_;intro a b c;go_wp2;go_ret;exact⟨rfl,a⟩
end Go.Proofs.YtjopfpegcckllaaGreatDoor
