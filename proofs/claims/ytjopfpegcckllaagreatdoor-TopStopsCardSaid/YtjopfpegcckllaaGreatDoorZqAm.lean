/- A part of TopStops's proof: SvAttempt. -/
import Derived.Deep.DeepCutAuto
import Derived.StillTailTactics
import Derived.Test.YtjopfpegcckllaaGreatDoorZqAk
set_option linter.all false
set_option maxRecDepth 100000
set_option maxHeartbeats 12800000
open Go.Proofs.Tryz
open Go renaming Oper→bt,Act→a6,World→O,Value→W,wpAnyH→bJ,AllReadyH→b5,Calls→aj,Addr→am,TypeId→an,Ending→aO,sizeOf→ci,isAgg→ct,bodyPost_ret→a4,wp_region_noPanic→aZ,wp_region_held_drew→a3,wpAnyH_done→aW
open Go.Act renaming put→bg
open Go.AllReadyH renaming cons→av,nil→bm
open Go.Ending renaming returned→aw
open Go.IntKind renaming i64→I
open Go.Lib renaming hid→G
open Go.NoPanic renaming normal→aX
open Go.Proofs.Tryz renaming prog→ae
open Go.RowKit renaming Hid→Y
open Go.Value renaming tuple→aY,int→H,bool→J,slice→D,agg→af,pointer→az,string→al
open Go.World renaming setCell→ag,alloc→ah
open Option renaming some→U
variable {s1 s2:Bool}{y:List Rat}{us:List W}{c1 c2 g gs m n off:Nat}{w w0:O}{A1 A2 D1 D2:Option am}{t wa:Rat}{a:a6}{T:an}{o:bt}
namespace Go.Proofs.YtjopfpegcckllaaGreatDoor
open Go.RowKit
namespace Z
def gn (k:Tk)(s:So):bv:=if(made k s).1=aG then aG else((made k s).1.1,(s.tries.length:Int)+1,(made k s).1.2.2)
end Z
def gT (z:bv×Z.Md)(w:O)(vN vE:W):Prop:=z.1=Z.aG->aF 130 w vN z.2.next/\aF 130 w vE z.2.err
theorem gT.up {z:bv×Z.Md}{w ab:O}{vN vE:W}(h:gT z w vN vE)(a:V w ab):gT z ab vN vE:=λe=>⟨(h e).1.up a,(h e).2.up a⟩
instance gT.bW {z:bv×Z.Md} {w ab:O} {vN vE:W}:Lu (V w ab) (gT z w vN vE) (gT z ab vN vE):=bu λu h=>h.up u
theorem gT.bs {z:bv×Z.Md}{T:an}{g:Nat}{w ab:O}{vN vE:W}{old new:List W}(h:gT z w vN vE)(b:Bs T g w ab old new)(a:53≠T:=by decide):gT z ab vN vE:=λe=>⟨(h e).1.bs b a,(h e).2.bs b a⟩
def nl (z:bv×Z.Md)(w:O)(e:aO)(i:O):Prop:= ∃(k:Option am) (o m:Nat) (j:Option am) (n l:Nat) (b:Option am) (g d:Nat) (a:Option am) (f c:Nat),e=aw (aY #[af #[D k o m,D j n l,D b g d,D a f c],cJ z.1])/\gT z i (D b g d) (D a f c)/\V w i
theorem nl.of {z:bv×Z.Md}{e:aO}{ab:O}(h:hN z w e ab):nl z w e ab:=by
 obtain⟨k,i,j,vE,a,⟨⟨a1,a2,bb,rfl⟩,⟨d,f,g,rfl⟩,⟨c1,c2,c3,rfl⟩,⟨d1,d2,d3,rfl⟩⟩,c,b⟩:=h;exact⟨_,_,_,_,_,_,_,_,_,_,_,_,a,λe=>(b e).2.2,c⟩
def DM (w0 w:O)(b:Nat)(c:List W)(m:Nat)(k:Z.Tk)(s:Z.So)(e:aO)(a:O):Prop:=
 e=aw (cJ (Z.gn k s))/\V w0 a/\Kz w a/\(Z.gn k s=Z.aG->dD w0 a b c (2*m+14) (Z.more k s))/\(Z.gn k s≠Z.aG->dD w0 a b c m s)
def Pt (w:O)(g off:Nat)(us:List W):Prop:= ∀(a:Nat) (b:W),us[a]? =U b->w.cell? ⟨g,off+a,none⟩=U b
theorem Pt.of {cs:List W}(hb:Bx T w g cs)(c:(cs.drop off).take us.length=us):Pt w g off us:=λj v a=>by
 have b:j<us.length:=(List.getElem?_eq_some_iff.1 a).1;rw[<-c,List.getElem?_take_of_lt b,List.getElem?_drop]at a;exact hb.cell a
theorem uA {x:Operand}(l:o.op=Op.load T x)(p:a.eval x=az (U ⟨g,off,none⟩))
 (f:∀w:O,(ct T).run ae w= .ok true w)(e:∀w:O,(ci T).run ae w= .ok n w)(m:Pt w g off us)(k:us.length=n):
 (execOp a.eval o).run ae w= .ok (.value (af us.toArray)) w:=by
 subst k
 have j:=run_loadCells_list (P:=ae) w ⟨g,off,none⟩ us (λb q i=>by
  have c:(⟨g,off,none⟩:am).add b=⟨g,off+b,none⟩:=by unfold Addr.add;by_cases d:b=0<;>simp[d]
  rw[c];exact m b q i)
 unfold execOp;simp only[l,p,asAddr,Instr.loadAt,Instr.sureAddr,Oper.upon,loadVar,Sem.run_bind,Sem.run_pure,f,e,j,Result.andThen,Result.andThen_ok,if_true]
theorem fm {c:Prop}[Decidable c]{A B:Prop}(a:c)(h:A):if c then A else B:=by rw[if_pos a];exact h
theorem jx {α:Type}{P:O->List W->α->Prop}{TS:an}{z:W}{ee:Nat}(f:Kn n T P)(H:Tryz.prog.underlying TS=U (.slice T))(hI:d8 T z n ee)(L:cQ n z.cells.toList)(t:ee<=1000){K:a6->O->Prop}{Q:Exit->a6->O->Prop}(s y:Operand)
 (B:o.op= .call {callee:= .builtin .append,args:=#[s,y],argTypes:=#[TS,TS]})
 {v:W}{qs:List α}(G:a.eval s=v)(C:aP P n T w0.heap.size w v qs)(p:V w0 w)
 {g c:Nat}{x:List W}{q:α}(J:a.eval y=D (U ⟨g,0,none⟩) 1 c)(E:Bx T w g x)(ha:P w x q)(hb:qs.length<=1000000000)
 (h:∀d b,aP P n T w0.heap.size b d (qs++[q])->Ap T w b->V w0 b->w.grownBy b v.ownBlock->K (a.put o.dst d) b):Oper.wp ae o a w K Q:=by
 obtain⟨M,j,l⟩:=C;obtain⟨d,b,F,r,e,i,N⟩:=oN (ty:=o.type) (c:=c) (ad:=⟨g,0,none⟩) (m:=x) H hI L t l (λR S u=>by rw[Addr.add_lit,Nat.zero_add];exact E.cell u) (f.ok ha) (by rw[j.1];exact hb) p.size;unfold Oper.wp execOp;simp only[B,resolve,invoke,builtin,Sem.run_bind,Sem.run_pure,Result.andThen_ok,List.map_toArray,List.map_cons,List.map_nil,G,J,F];exact h d b ⟨M++[x],(j.imp λx q I=>f.kw I e).snoc (f.kw ha e),r⟩ e (p.grown i (λk A=>(l.own.lt k A).1)) i
theorem uB:d8 69 (af #[J false,D none 0 0,D none 0 0,J false,D none 0 0,D none 0 0,J false,D none 0 0,D none 0 0,J false,D none 0 0,D none 0 0,D none 0 0,J false]) 14 256:=by unfold d8;kernel_rfl
theorem uC:cQ 14 (af #[J false,D none 0 0,D none 0 0,J false,D none 0 0,D none 0 0,J false,D none 0 0,D none 0 0,J false,D none 0 0,D none 0 0,D none 0 0,J false]).cells.toList:=⟨rfl,λb a=>by
 simp only[Value.cells,List.mem_cons,List.not_mem_nil,or_false]at a;rcases a with rfl|rfl|rfl|rfl|rfl|rfl|rfl|rfl|rfl|rfl|rfl|rfl|rfl|rfl<;>exact⟨trivial,rfl⟩⟩
theorem uD {eC:Rat}(h1:E.Lq t m)(h2:E.Lq eC 2)(a:E.Lq wa m):E.Lq (Pc.cut t eC wa) (m+3):=by
 unfold Pc.cut
 split
 .exact(h2.sub h1).mono (by omega)
 .exact a.mono (by omega)
theorem pR:∀{l:List Rat} {b:Rat} {k:Nat},(∀q∈l,E.Lq q k)->E.Lq b k->E.Lq (l.foldl (λb x=>if b<E.dZ x then E.dZ x else b) b) k
 |[],b,k,_,hb=>hb
 |q::l,b,k,f,hb=>by
  rw[List.foldl_cons];refine pR (λx a=>f x (by simp[a])) ?_
  split
  .exact pi (f q (by simp))
  .exact hb
theorem Z.GO {P:Z.Pr}{h:Rat}:(Z.step P t h y).2.err.length<=P.ar:=by
 unfold Z.step;simp only
 split
 .split
  .split
   .unfold Z.err
    split
    .simp
    .simp[Z.fh,Z.ir]
   .simp
  .simp
 .simp
theorem dD.mk {l ny:Nat}{tc:List W}{s:Z.So}{trs:List Z.Tr}(e:s=⟨trs,t,y,wa⟩)(b:trs.length=l)(c:y.length=ny){TR YA:Option am}{cT n1 m1 d1 cy n2 m2 d2:Nat}
 (hb:Bx 97 w gs (tc++[D TR l cT,J s1,D A1 n1 c1,D D1 m1 d1,D YA ny cy,J s2,D A2 n2 c2,D D2 m2 d2]))(a:dd 100000 130 w0 w (D TR l cT) trs)(d:Qk m w (af #[J s1,D A1 n1 c1,D D1 m1 d1]) t)(f:aF 130 w (D YA ny cy) y)(hw:Qk m w (af #[J s2,D A2 n2 c2,D D2 m2 d2]) wa):dD w0 w gs tc m s:=by
 subst e b c;exact⟨TR,A1,D1,YA,A2,D2,s1,s2,cT,n1,c1,m1,d1,cy,n2,c2,m2,d2,hb,a,d,f,hw⟩
theorem DN {q:Pb}{TA TB SC SA SB SE PA:Option am}{aH cB cc ca cb ce cp:Nat}{s3 s4 s5:Bool}{A3 A4 A5 D3 D4 D5:Option am}{l1 l2 l3 l4 l5 m1 m2 m3 m4 m5:List Nat}{c3 c4 c5 e1 e2 e3 e4 e5:Nat}{fi mo:Int}{sS sE sF:Bool}{AS DS AE DE AF DF YK:Option am}{nS cS mS dS nE cE mE dE nF cH mF dF nK cK:Nat}{kp:Nat}{s:Z.So}{cZ safe low high least start stop first:Rat}{y0:List Rat}(fz:c7 kp w0 [D TA q.code.length aH,D TB q.os.length cB,H I q.ar,H I q.par,al q.nm,D SC q.c.length cc,D SA q.a.length ca,D SB q.b.length cb,D SE q.e.length ce,D PA q.p.length cp,H I q.bits] q)(fA:Y (eD q))(d8:Y (q.right=true))(dc:Fr w0 (af #[J s1,D A1 l1.length c1,D D1 m1.length e1]) cZ 1000)(dH:Fr w0 (af #[J s2,D A2 l2.length c2,D D2 m2.length e2]) safe 1000)(F3:Fr w0 (af #[J s3,D A3 l3.length c3,D D3 m3.length e3]) low 1000)(dI:Fr w0 (af #[J s4,D A4 l4.length c4,D D4 m4.length e4]) high 1000)(dZ:Fr w0 (af #[J sE,D AE nE cE,D DE mE dE]) stop 2)
 (dV:dD w0 w gs [D TA q.code.length aH,D TB q.os.length cB,H I q.ar,H I q.par,al q.nm,D SC q.c.length cc,D SA q.a.length ca,D SB q.b.length cb,D SE q.e.length ce,D PA q.p.length cp,H I q.bits,J s1,D A1 l1.length c1,D D1 m1.length e1,J s2,D A2 l2.length c2,D D2 m2.length e2,J s3,D A3 l3.length c3,D D3 m3.length e3,J s4,D A4 l4.length c4,D D4 m4.length e4,J s5,D A5 l5.length c5,D D5 m5.length e5,H I fi,H I mo,J sS,D AS nS cS,D DS mS dS,J sE,D AE nE cE,D DE mE dE,J sF,D AF nF cH,D DF mF dF,D YK nK cK] m s)(h0:V w0 w)(gA:w0.heap.size<=gs)(fB:Y ((s.y.length:Int)=q.ar))(fs:Y (∀e,E.Lq e 130->E.Lq (Pc.et cZ safe low high fi e) 8))(dQ:1<=fi)(dR:fi<=1024)(gF:m<=66000)(fy:s.tries.length<=1000)(fu:kp<=1000):
 aj ae 33 #[az (U ⟨gs,0,none⟩)] w (DM w0 w gs [D TA q.code.length aH,D TB q.os.length cB,H I q.ar,H I q.par,al q.nm,D SC q.c.length cc,D SA q.a.length ca,D SB q.b.length cb,D SE q.e.length ce,D PA q.p.length cp,H I q.bits,J s1,D A1 l1.length c1,D D1 m1.length e1,J s2,D A2 l2.length c2,D D2 m2.length e2,J s3,D A3 l3.length c3,D D3 m3.length e3,J s4,D A4 l4.length c4,D D4 m4.length e4,J s5,D A5 l5.length c5,D D5 m5.length e5,H I fi,H I mo,J sS,D AS nS cS,D DS mS dS,J sE,D AE nE cE,D DE mE dE,J sF,D AF nF cH,D DF mF dF,D YK nK cK] m ⟨q.pr,⟨cZ,safe,low,high,least,fi,mo⟩,start,stop,first,y0⟩ s):=by
 obtain⟨k,df⟩:∃k:Z.Tk,Y (k=⟨q.pr,⟨cZ,safe,low,high,least,fi,mo⟩,start,stop,first,y0⟩):=⟨_,G rfl⟩;rw[<-df.out];obtain⟨sz,cX⟩:∃co,Y (Pc.cut s.t stop s.want=co):=⟨_,G rfl⟩;obtain⟨aI,cx⟩:∃aI,Y (Z.step q.pr s.t sz s.y=aI):=⟨_,G rfl⟩;have di:Y (Z.made k s=aI):=G (by rw[df.out,<-cx.out,<-cX.out];rfl);have dk:=G (Z.m9 q.pr s.t sz s.y);rw[cx.out]at dk;have fP:Y (dD w0 w gs [D TA q.code.length aH,D TB q.os.length cB,H I q.ar,H I q.par,al q.nm,D SC q.c.length cc,D SA q.a.length ca,D SB q.b.length cb,D SE q.e.length ce,D PA q.p.length cp,H I q.bits,J s1,D A1 l1.length c1,D D1 m1.length e1,J s2,D A2 l2.length c2,D D2 m2.length e2,J s3,D A3 l3.length c3,D D3 m3.length e3,J s4,D A4 l4.length c4,D D4 m4.length e4,J s5,D A5 l5.length c5,D D5 m5.length e5,H I fi,H I mo,J sS,D AS nS cS,D DS mS dS,J sE,D AE nE cE,D DE mE dE,J sF,D AF nF cH,D DF mF dF,D YK nK cK] m s):=G dV;obtain⟨ct,aY,a1,a2,B2,bb,ba,bk,cv,a7,k1,a6,a5,cy,bj,k2,bi,bd,hb,y,x,z,hw⟩:=dV;have dq:Y (E.Lq sz (m+3)):=G (by rw[<-cX.out];exact uD x.lq dZ.lq hw.lq);have gz:=hb.lt;have A:=Kz.refl w;have d:=h0;have a:Bx 97 w gs [D TA q.code.length aH,D TB q.os.length cB,H I q.ar,H I q.par,al q.nm,D SC q.c.length cc,D SA q.a.length ca,D SB q.b.length cb,D SE q.e.length ce,D PA q.p.length cp,H I q.bits,J s1,D A1 l1.length c1,D D1 m1.length e1,J s2,D A2 l2.length c2,D D2 m2.length e2,J s3,D A3 l3.length c3,D D3 m3.length e3,J s4,D A4 l4.length c4,D D4 m4.length e4,J s5,D A5 l5.length c5,D D5 m5.length e5,H I fi,H I mo,J sS,D AS nS cS,D DS mS dS,J sE,D AE nE cE,D DE mE dE,J sF,D AF nF cH,D DF mF dF,D YK nK cK,D ct s.tries.length cv,J ba,D aY a7 k1,D a1 a6 a5,D a2 s.y.length cy,J bk,D B2 bj k2,D bb bi bd]:=hb;clear hb h0;go_enter func33,ntmps33;go_upto_region 1 with fail
 generalize u:ah w _=cu at*;obtain⟨aw,l⟩:=aC u;clear u;have gZ:=a.lt;have g1:¬(gs=w.heap.size):=by omega
 have gU:¬(w.heap.size=gs):=by omega
 revert y x z hw A d a;revert aw;refine eR ?_;intro y x z hw A d a;obtain⟨X,ab,ai,an⟩:=l.c4;have a9:=l.free;have gE:=l.lt;have bl:=d;clear d X ab ai an a9;have d:=V.refl cu
 go_cut [3] (λs3 bD=> ∃(g3:Nat) (aO aQ:Option am) (aS cz aT aU:Nat),s3=az (U ⟨g3,0,none⟩)/\cu.heap.size<=g3/\Qk (m+3) bD (af #[J (E.aB sz.num),D aO aS cz,D aQ aT aU]) sz/\Bx 53 bD g3 [J (E.aB sz.num),D aO aS cz,D aQ aT aU]/\V cu bD)
 case first=>
  have b0:=a.k 31;have b1:=a.k 32;have b2:=a.k 33;have B:=a.k 39;have C:=a.k 40;have F:=a.k 41;have aJ:=a.k 43;have aK:=a.k 44;have aL:=a.k 45;revert a d b0 b1 b2 B C F aJ aK aL;refine bC (V.refl cu).drew ?_;intro a d b0 b1 b2 B C F aJ aK aL
  refine aZ ?_;refine a3 (S:=λao=>V cu ao/\Cz ao gs 31 [J sE,D AE nE cE,D DE mE dE]/\Cz ao gs 39 [J ba,D aY a7 k1,D a1 a6 a5]/\Cz ao gs 43 [J bk,D B2 bj k2,D bb bi bd]) (by kernel_rfl) (by exact⟨d,a.cy 31 3,a.cy 39 3,a.cy 43 3⟩) (λt=> ?_);generalize cu.drew=p at*;refine aa 0 ?_;refine aa 1 ?_;refine aa 2 ?_;refine aa 3 ?_;refine aa 4 ?_;refine aa 5 ?_;refine aa 6 ?_;refine aa 7 ?_;refine aa 8 ?_;refine aa 9 ?_;refine aa 10 ?_;refine aa 11 ?_;refine aa 12 ?_;refine aa 13 ?_
  repeat' first
   |(have n:=cO;clear cO
     (try clear t)
     go_simp;go_at_call 13
     with_reducible refine(ua (k:=70000) ((x.mono (by omega)).fr.up d) (((dZ.up bl).mono (by omega)).up d) ((hw.mono (by omega)).fr.up d) (by omega)).mono ?_
     rintro e p ⟨fR,rfl,bY,ar⟩
     try(replace b4:=b4.up ar)
     revert a d b0 b1 b2 B C F aJ aK aL;refine bC ar ?_;intro a d b0 b1 b2 B C F aJ aK aL
     try(replace c:=c.up ar)
     clear ar;rw[cX.out]at bY;obtain⟨fZ,f2,rfl,bY,b4⟩:=bY;obtain⟨fN,gM,gi,rfl⟩:=bY.shape;obtain⟨fO,gN,gj,rfl⟩:=b4.shape
     try go_wp2_with fail
     refine ax n (by exact⟨d,a.cy 31 3,a.cy 39 3,a.cy 43 3⟩) (λt=> ?_);clear n K)
   |(have n:=ec;clear ec
     (try clear t)
     go_simp;have gV:=a.lt;have es:=d.size;generalize bh:p.heap.size=fo at*;generalize u:ah p _=p at*;obtain⟨aw,c⟩:=b3 u bh;clear u bh
     try(replace bY:=bY.up aw)
     try(replace b4:=b4.up aw)
     revert a d b0 b1 b2 B C F aJ aK aL;revert aw;refine qD ?_;intro a d b0 b1 b2 B C F aJ aK aL
     refine ax n (by exact⟨d,a.cy 31 3,a.cy 39 3,a.cy 43 3⟩) (λt=> ?_);clear n K)
   |(have n:=da;clear da
     (try clear t)
     have cg:=c.k 0;have ch:=c.k 1;have ci:=c.k 2;have cj:=c.free 0;have ck:=c.free 1;have cm:=c.free 2;go_simp;clear cg ch ci cj ck cm;generalize u:ag (ag (ag p _ _) _ _) _ _=p at*;have b:=dh c u;clear u
     try(replace bY:=bY.kw b.kw)
     try(replace b4:=b4.kw b.kw)
     replace a:=a.bs b;replace c:=b.new;replace d:=d.bs b;clear b;clear b0 b1 b2 B C F aJ aK aL;have b0:=a.k 31;have b1:=a.k 32;have b2:=a.k 33;have B:=a.k 39;have C:=a.k 40;have F:=a.k 41;have aJ:=a.k 43;have aK:=a.k 44;have aL:=a.k 45;refine ax n (by exact⟨d,a.cy 31 3,a.cy 39 3,a.cy 43 3⟩) (λt=> ?_);clear n K)
   |(with_reducible show b5 _ _ _ _ _ _ _ _ _ _
     first
      |refine av (i:=14) rfl (λK cO=> ?_) ?_
      |refine av (i:=15) rfl (λK ec=> ?_) ?_
      |refine av (i:=16) rfl (λK da=> ?_) ?_
      |exact bm)
   |(with_reducible show bJ _ _ _ _ _ _ _ _ _
     first
      |refine ak [14,15] ?_
      |refine ak [14] ?_
      |refine ak [15] ?_
      |refine ak [16] ?_
      |refine aW (by decide +kernel) (aX ?_) _)
   |fail
  all_goals try clear t
  all_goals have cf:=c.c3
  all_goals
   have d0:=es;go_wp2_with fail
   go_meet
   exact⟨fo,_,_,_,_,_,_,rfl,d0,⟨eb bY b4,dq.out⟩,c,d⟩
 case rest=>
  obtain⟨g3,aO,aQ,aS,cz,aT,aU,rfl,gv,L,c,bs⟩:=hcut;revert l y x z hw A a bl;refine b9 bs ?_;intro l y x z hw A a bl
  clear d bs;have d:=V.refl wc;go_upto_region 2 with fail
  go_cut [4,5] (λs4 s5 bD=> ∃(cD cG:Nat) (dt dm cq cQ:Option am) (du dv dn dp c0 cr cU cV:Nat),s4=az (U ⟨cD,0,none⟩)/\s5=az (U ⟨cG,0,none⟩)/\wc.heap.size<=cD/\wc.heap.size<=cG/\Bx 73 bD cD [D dt du dv,D dm dn dp,D cq c0 cr,D cQ cU cV]/\Bx 63 bD cG [H I aI.1.1,H I aI.1.2.1,H I aI.1.2.2.1,H I aI.1.2.2.2]/\gT aI bD (D cq c0 cr) (D cQ cU cV)/\V wc bD)
  case first=>
   have cf:=c.c3;have B:=a.k 39;have C:=a.k 40;have F:=a.k 41;have aG:=a.k 42;revert c a d B C F aG;refine bS (V.refl wc).drew ?_;intro c a d B C F aG
   replace cf:=c.c3;refine aZ ?_;refine a3 (S:=λao=>V wc ao/\Cz ao gs 39 [J ba,D aY a7 k1,D a1 a6 a5,D a2 s.y.length cy]/\Cz ao g3 0 [J (E.aB sz.num),D aO aS cz,D aQ aT aU]/\Bx 97 ao (gs) [D TA q.code.length aH,D TB q.os.length cB,H I q.ar,H I q.par,al q.nm,D SC q.c.length cc,D SA q.a.length ca,D SB q.b.length cb,D SE q.e.length ce,D PA q.p.length cp,H I q.bits,J s1,D A1 l1.length c1,D D1 m1.length e1,J s2,D A2 l2.length c2,D D2 m2.length e2,J s3,D A3 l3.length c3,D D3 m3.length e3,J s4,D A4 l4.length c4,D D4 m4.length e4,J s5,D A5 l5.length c5,D D5 m5.length e5,H I fi,H I mo,J sS,D AS nS cS,D DS mS dS,J sE,D AE nE cE,D DE mE dE,J sF,D AF nF cH,D DF mF dF,D YK nK cK,D ct s.tries.length cv,J ba,D aY a7 k1,D a1 a6 a5,D a2 s.y.length cy,J bk,D B2 bj k2,D bb bi bd]) (by kernel_rfl) (by exact⟨d,a.cy 39 4,c.cz,a⟩) (λt=> ?_);generalize wc.drew=p at*;refine aa 0 ?_;refine aa 1 ?_;refine aa 2 ?_;refine aa 3 ?_
   (refine wpAnyH_take (i:=4) (v:=af #[D TA q.code.length aH,D TB q.os.length cB,H I q.ar,H I q.par,al q.nm,D SC q.c.length cc,D SA q.a.length ca,D SB q.b.length cb,D SE q.e.length ce,D PA q.p.length cp,H I q.bits]) rfl (by kernel_rfl) (by decide +kernel) (by decide +kernel) (λ_ _ _ bF=>bF) (Or.inl ⟨by rfl,λw cn=>fY (off:=0) rfl rfl ip iw cn.2.2.2 rfl rfl⟩) (by assumption) ?_;try simp only[bc,bg])
   refine aa 5 ?_;refine aa 6 ?_;refine aa 7 ?_;refine aa 8 ?_;refine aa 9 ?_;refine aa 10 ?_;refine aa 11 ?_;refine aa 12 ?_;refine aa 13 ?_;refine aa 14 ?_;refine aa 15 ?_
   repeat' first
    |(have n:=da;clear da
      (try clear t)
      go_simp;go_at_call 12
      with_reducible refine((pG (fz.up (bl.trans d)) fA d8 ((x.mono (by omega)).fr.up d) (L.fr.up d) (z.fs.up d) fB (kt:=100000) (by omega) (by omega) (by omega) fu).mono λ_ _ bF=>nl.of bF).mono ?_
      rintro e p ⟨dt,du,dv,dm,dn,dp,cq,c0,cr,cQ,cU,cV,rfl,rd,ar⟩;revert c a d B C F aG;refine bS ar ?_;intro c a d B C F aG
      try(replace o:=o.up ar)
      try(replace j:=j.up ar)
      replace cf:=c.c3;clear ar;rw[cx.out]at rd;rw[cx.out];unfold cJ
      try go_wp2_with fail
      refine ax n (by exact⟨d,a.cy 39 4,c.cz,a⟩) (λt=> ?_);clear n K)
    |(have n:=ep;clear ep
      (try clear t)
      go_simp;have gY:=a.lt;have f6:=c.lt;have fE:=d.size
      try(have dU:=j.lt)
      generalize bh:p.heap.size=fq at*;generalize u:ah p _=p at*;obtain⟨aw,o⟩:=b3 u bh;clear u bh
      try(replace rd:=rd.up aw)
      revert c a d B C F aG;refine bS aw ?_;intro c a d B C F aG
      try(replace j:=j.up aw)
      replace cf:=c.c3;clear aw;refine ax n (by exact⟨d,a.cy 39 4,c.cz,a⟩) (λt=> ?_);clear n K)
    |(have n:=er;clear er
      (try clear t)
      go_simp;have gX:=a.lt;have f5:=c.lt;have eW:=d.size
      try(have d9:=o.lt)
      generalize bh:p.heap.size=fp at*;generalize u:ah p _=p at*;obtain⟨aw,j⟩:=b3 u bh;clear u bh
      try(replace rd:=rd.up aw)
      revert c a d B C F aG;refine bS aw ?_;intro c a d B C F aG
      try(replace o:=o.up aw)
      replace cf:=c.c3;clear aw;refine ax n (by exact⟨d,a.cy 39 4,c.cz,a⟩) (λt=> ?_);clear n K)
    |(have n:=ds;clear ds
      (try clear t)
      have cg:=o.k 0;have ch:=o.k 1;have ci:=o.k 2;have cA:=o.k 3;have cj:=o.free 0;have ck:=o.free 1;have cm:=o.free 2;have cC:=o.free 3;go_simp;clear cg ch ci cA cj ck cm cC;generalize u:ag (ag (ag (ag p _ _) _ _) _ _) _ _=p at*;have b:=bp o u;clear u
      try(replace rd:=rd.bs b)
      replace a:=a.bs b;replace c:=c.bs b;replace j:=j.bs b (by first|omega|(have:=dU;omega)|(have:=d9;omega));replace o:=b.new;replace d:=d.bs b;clear b;clear B C F aG;have B:=a.k 39;have C:=a.k 40;have F:=a.k 41;have aG:=a.k 42;replace cf:=c.c3;refine ax n (by exact⟨d,a.cy 39 4,c.cz,a⟩) (λt=> ?_);clear n K)
    |(have n:=eC;clear eC
      (try clear t)
      have cg:=j.k 0;have ch:=j.k 1;have ci:=j.k 2;have cA:=j.k 3;have cj:=j.free 0;have ck:=j.free 1;have cm:=j.free 2;have cC:=j.free 3;go_simp;clear cg ch ci cA cj ck cm cC;generalize u:ag (ag (ag (ag p _ _) _ _) _ _) _ _=p at*;have b:=bp j u;clear u
      try(replace rd:=rd.bs b)
      replace a:=a.bs b;replace c:=c.bs b;replace o:=o.bs b (by first|omega|(have:=d9;omega)|(have:=dU;omega));replace j:=b.new;replace d:=d.bs b;clear b;clear B C F aG;have B:=a.k 39;have C:=a.k 40;have F:=a.k 41;have aG:=a.k 42;replace cf:=c.c3;refine ax n (by exact⟨d,a.cy 39 4,c.cz,a⟩) (λt=> ?_);clear n K)
    |(with_reducible show b5 _ _ _ _ _ _ _ _ _ _
      first
       |refine av (i:=16) rfl (λK da=> ?_) ?_
       |refine av (i:=20) rfl (λK ep=> ?_) ?_
       |refine av (i:=21) rfl (λK er=> ?_) ?_
       |refine av (i:=22) rfl (λK ds=> ?_) ?_
       |refine av (i:=23) rfl (λK eC=> ?_) ?_
       |exact bm)
    |(with_reducible show bJ _ _ _ _ _ _ _ _ _
      first
       |refine ak [16,20,21] ?_
       |refine ak [16,20] ?_
       |refine ak [16,21] ?_
       |refine ak [16] ?_
       |refine ak [20,21] ?_
       |refine ak [20] ?_
       |refine ak [21] ?_
       |refine ak [22] ?_
       |refine ak [23] ?_
       |refine aa 17 ?_
       |refine aa 18 ?_
       |refine aa 19 ?_
       |refine aW (by decide +kernel) (aX ?_) _)
    |fail
   all_goals try clear t
   all_goals have cM:=o.c4
   all_goals have aE:=j.c4
   all_goals
    have fv:=fE;have fw:=eW;go_wp2_with fail
    go_meet
    exact⟨fq,fp,_,_,_,_,_,_,_,_,_,_,_,_,rfl,rfl,fv,fw,o,j,rd,d⟩
  case rest=>
   obtain⟨cD,cG,dt,dm,cq,cQ,du,dv,dn,dp,c0,cr,cU,cV,rfl,rfl,gw,gx,o,j,rd,bs⟩:=hcut;revert L l y x z hw A a;refine b9 bs ?_;intro L l y x z hw A a
   have d0:=c.lt;replace c:=c.up bs;replace bl:=bl.trans bs;clear d bs;have d:=bl
   by_cases cI:aI.1=Z.aG
   rotate_left
   .have gC:(aI.1.1==0)=false:=by
     rw[beq_eq_false_iff_ne];rcases dk.out with cL|cL
     .exact absurd cL cI
     .exact cL
    have b6:Y (Z.gn k s=(aI.1.1,(s.tries.length:Int)+1,aI.1.2.2)):=G (by unfold Z.gn;rw[di.out,if_neg cI])
    have eg:Y (Z.gn k s≠Z.aG):=G (by
     rw[b6.out];intro cL;have fr:((s.tries.length:Int)+1)=0:=congrArg (λeV:bv=>eV.2.1) cL;omega)
    have gH:IntKind.i64.wrap ((s.tries.length:Int)+1)=(s.tries.length:Int)+1:=IntWalk.i64_in _ (by omega);clear o c rd;obtain⟨X,ab,ai,an⟩:=l.c4;have a9:=l.free;have aE:=j.c4;have gl:=j.free;have bA:=a.k 38;go_upto_region 5 with fail
    generalize u:ag wc _ _=ek at*;have b:=eJ j u;clear u;replace y:=y.bs b;replace x:=x.kw b.kw;replace z:=z.bs b;replace hw:=hw.kw b.kw;replace A:=A.eF b (by omega);replace a:=a.bs b;replace l:=l.bs b;replace j:=b.new;replace d:=d.bs b;clear b;clear X ab ai an bA;obtain⟨X,ab,ai,an⟩:=l.c4;replace a9:=l.free;replace aE:=j.c4;go_wp2_with fail;generalize u:ag (ag (ag (ag ek _ _) _ _) _ _) _ _=fV at*;have b:=bp l u;clear u;replace y:=y.bs b;replace x:=x.kw b.kw;replace z:=z.bs b;replace hw:=hw.kw b.kw;replace A:=A.eF b (by omega);replace a:=a.bs b;replace j:=j.bs b;replace l:=b.new;replace d:=d.bs b;clear b;clear X ab ai an;obtain⟨X,ab,ai,an⟩:=l.c4;replace aE:=j.c4;exact a4 (cl rfl rfl bM bN l rfl) rfl ⟨by rw[b6.out];rfl,d,A,λe=>absurd e eg.out,λ_=>⟨ct,aY,a1,a2,B2,bb,ba,bk,cv,a7,k1,a6,a5,cy,bj,k2,bi,bd,a,y,x,z,hw⟩⟩
   .obtain⟨W,bZ⟩:=rd cI;obtain⟨_,_,eT⟩:=W.form;cases eT;obtain⟨_,_,eS⟩:=bZ.form;cases eS;have dT:Bx 63 wc cG [H I 0,H I 0,H I 0,H I 0]:=by rw[cI]at j;exact j
    clear j rd;have j:=dT;clear dT;obtain⟨aD,de⟩:∃co,Y (Z.norm aI.2.err=co):=⟨_,G rfl⟩;have cw:Y (E.Lq aD 130):=G (by rw[<-de.out];exact pR bZ.fs.lq (kj.mono (by omega)));obtain⟨ok,dM⟩:∃eo,Y (decide (aD<=cZ)=eo):=⟨_,G rfl⟩;obtain⟨db,cY⟩:∃co,Y (sz*Pc.et cZ safe low high fi aD=co):=⟨_,G rfl⟩;have dN:Y (E.Lq db (2*m+14)):=G (by rw[<-cY.out];exact(dq.out.mul (fs.out aD cw.out)).mono (by omega));obtain⟨dG,dj⟩:∃co,Y (s.t+sz=co):=⟨_,G rfl⟩;have ei:Y (E.Lq dG (2*m+14)):=G (by rw[<-dj.out];exact(x.lq.add dq.out).mono (by omega));have b6:Y (Z.gn k s=Z.aG):=G (by unfold Z.gn;rw[di.out,if_pos cI])
    have dL:Y (Z.more k s=⟨s.tries++[⟨s.t,s.want,sz,aD,s.y,ok⟩],if ok=true then dG else s.t,if ok=true then aI.2.next else s.y,db⟩):=G (by
     have e1:=di.out;have e2:=de.out;have e3:=dM.out;have e4:=cY.out;have e5:=dj.out;have eP:=cX.out;have eQ:=df.out;subst eQ;unfold Z.more Z.size;simp only[e1,e2,e3,e4,e5,eP])
    have gu:aI.2.err.length<=6:=by
     have fr:=(io (kB d8.out).1).1;have gq:aI.2.err.length<=q.ar.toNat:=by rw[<-cx.out];exact Z.GO
     omega
    clear dk;have aE:=j.c4;have cM:=o.c4;go_wp2_with fail
    with_reducible refine(Bd bZ.fs (by omega) (by omega) (by omega)).mono ?_
    rintro e c8 ⟨fQ,rfl,M,u101⟩;revert L l y x z hw A a W bZ o j;refine au u101 ?_;intro L l y x z hw A a W bZ o j;revert c d aE cM;revert u101;refine dW ?_;intro c d aE cM
    rw[de.out]at M;obtain⟨fW,f0,rfl,M,N⟩:=M;obtain⟨bq,bx,bt,rfl⟩:=M.shape;obtain⟨br,bz,bu,rfl⟩:=N.shape;have eX:=j.d4;have fF:=o.d4;go_upto_region 7 with fail
    clear eX fF;generalize u:ah c8 _=b7 at*;obtain⟨aw,f⟩:=aC u;clear u;have gW:=a.lt;have gO:=l.lt;have gm:=j.lt;have gI:=o.lt;have f4:=c.lt;revert L l y x z hw A a W bZ M N;refine au aw ?_;intro L l y x z hw A a W bZ M N;revert o j c d aE cM;revert aw;refine dX ?_;intro o j c d aE cM
    have ga:=f.c3;have bl:=d;clear d;have d:=V.refl b7
    go_cut [7] (λfI bD=> ∃bE,fI=az (U ⟨bE,0,none⟩)/\b7.heap.size<=bE/\Bx 69 bD bE [J ba,D aY a7 k1,D a1 a6 a5,J bk,D B2 bj k2,D bb bi bd,J (E.aB sz.num),D aO aS cz,D aQ aT aU,J (E.aB aD.num),D bq bx bt,D br bz bu,D a2 s.y.length cy,J ok]/\V b7 bD)
    case first=>
     have B:=a.k 39;have C:=a.k 40;have F:=a.k 41;have aG:=a.k 42;have aJ:=a.k 43;have aK:=a.k 44;have aL:=a.k 45;have Q:=c.k 0;have R:=c.k 1;have T:=c.k 2;have ay:=f.k 0;have aA:=f.k 1;have aB:=f.k 2;revert f a c d B C F aG aJ aK aL Q;refine au (V.refl b7).drew ?_;intro f a c d B C F aG aJ aK aL Q;revert R T ay aA aB;refine b8 (V.refl b7).drew ?_;intro R T ay aA aB
     refine aZ ?_;refine a3 (S:=λao=>V b7 ao/\Cz ao gs 39 [J ba,D aY a7 k1,D a1 a6 a5,D a2 s.y.length cy,J bk,D B2 bj k2,D bb bi bd]/\Cz ao g3 0 [J (E.aB sz.num),D aO aS cz,D aQ aT aU]/\Cz ao (c8.heap.size) 0 [J (E.aB aD.num),D bq bx bt,D br bz bu]/\Bx 97 ao (gs) [D TA q.code.length aH,D TB q.os.length cB,H I q.ar,H I q.par,al q.nm,D SC q.c.length cc,D SA q.a.length ca,D SB q.b.length cb,D SE q.e.length ce,D PA q.p.length cp,H I q.bits,J s1,D A1 l1.length c1,D D1 m1.length e1,J s2,D A2 l2.length c2,D D2 m2.length e2,J s3,D A3 l3.length c3,D D3 m3.length e3,J s4,D A4 l4.length c4,D D4 m4.length e4,J s5,D A5 l5.length c5,D D5 m5.length e5,H I fi,H I mo,J sS,D AS nS cS,D DS mS dS,J sE,D AE nE cE,D DE mE dE,J sF,D AF nF cH,D DF mF dF,D YK nK cK,D ct s.tries.length cv,J ba,D aY a7 k1,D a1 a6 a5,D a2 s.y.length cy,J bk,D B2 bj k2,D bb bi bd]) (by kernel_rfl) (by exact⟨d,a.cy 39 7,c.cz,f.cz,a⟩) (λt=> ?_);generalize b7.drew=p at*;refine aa 0 ?_;refine aa 1 ?_;refine aa 2 ?_;refine aa 3 ?_;refine aa 4 ?_;refine aa 5 ?_;refine aa 6 ?_;refine aa 7 ?_;refine aa 8 ?_;refine aa 9 ?_;refine aa 10 ?_;refine aa 11 ?_;refine aa 12 ?_;refine aa 13 ?_;refine aa 14 ?_;refine aa 15 ?_;refine aa 16 ?_;refine aa 17 ?_;refine aa 18 ?_;refine aa 19 ?_
     (refine wpAnyH_take (i:=20) (v:=af #[J s1,D A1 l1.length c1,D D1 m1.length e1,J s2,D A2 l2.length c2,D D2 m2.length e2,J s3,D A3 l3.length c3,D D3 m3.length e3,J s4,D A4 l4.length c4,D D4 m4.length e4,J s5,D A5 l5.length c5,D D5 m5.length e5,H I fi,H I mo]) rfl (by kernel_rfl) (by decide +kernel) (by decide +kernel) (λ_ _ _ bF=>bF) (Or.inl ⟨by rfl,λw cn=>fY (off:=11) rfl rfl hh hi cn.2.2.2.2 rfl rfl⟩) (by assumption) ?_;try simp only[bc,bg])
     refine aa 21 ?_
     repeat' first
      |(have n:=ds;clear ds
        (try clear t)
        go_simp;go_at_call 60
        with_reducible refine(CN (((eb M N).fr cw.out).up d) (dc.up (bl.trans d)) (by omega)).mono ?_
        rintro e p ⟨rfl,ar⟩;revert f a c d B C F aG aJ aK aL;refine bC ar ?_;intro f a c d B C F aG aJ aK aL
        try(replace g:=g.up ar)
        clear Q R T;have Q:=c.k 0;have R:=c.k 1;have T:=c.k 2;clear ay aA aB;have ay:=f.k 0;have aA:=f.k 1;have aB:=f.k 2;clear ar;rw[dM.out]
        try go_wp2_with fail
        refine ax n (by exact⟨d,a.cy 39 7,c.cz,f.cz,a⟩) (λt=> ?_);clear n K)
      |(have n:=eU;clear eU
        (try clear t)
        go_simp;have g0:=a.lt;have f9:=c.lt;have gd:=f.lt;have fK:=d.size;generalize bh:p.heap.size=aq at*;generalize u:ah p _=p at*;obtain⟨aw,g⟩:=b3 u bh;clear u bh;revert f a c d B C F aG aJ aK aL;refine bC aw ?_;intro f a c d B C F aG aJ aK aL
        clear Q R T;have Q:=c.k 0;have R:=c.k 1;have T:=c.k 2;clear ay aA aB;have ay:=f.k 0;have aA:=f.k 1;have aB:=f.k 2;clear aw;refine ax n (by exact⟨d,a.cy 39 7,c.cz,f.cz,a⟩) (λt=> ?_);clear n K)
      |(have n:=e0;clear e0
        (try clear t)
        have cg:=g.k 0;have ch:=g.k 1;have ci:=g.k 2;have cA:=g.k 3;have eB:=g.k 4;have eH:=g.k 5;have eI:=g.k 6;have eK:=g.k 7;have eL:=g.k 8;have eM:=g.k 9;have eu:=g.k 10;have ew:=g.k 11;have ex:=g.k 12;have ey:=g.k 13;have cj:=g.free 0;have ck:=g.free 1;have cm:=g.free 2;have cC:=g.free 3;have fb:=g.free 4;have fg:=g.free 5;have fh:=g.free 6;have fj:=g.free 7;have fk:=g.free 8;have fl:=g.free 9;have eY:=g.free 10;have eZ:=g.free 11;have e6:=g.free 12;have e7:=g.free 13;go_simp;clear cg ch ci cA eB eH eI eK eL eM eu ew ex ey cj ck cm cC fb fg fh fj fk fl eY eZ e6 e7;have b:Bs 69 (aq) p (((((((((((((((p).setCell ⟨aq,0,none⟩ (J ba)).setCell ⟨aq,1,none⟩ (D aY a7 k1)).setCell ⟨aq,2,none⟩ (D a1 a6 a5)).setCell ⟨aq,3,none⟩ (J bk)).setCell ⟨aq,4,none⟩ (D B2 bj k2)).setCell ⟨aq,5,none⟩ (D bb bi bd)).setCell ⟨aq,6,none⟩ (J (E.aB sz.num))).setCell ⟨aq,7,none⟩ (D aO aS cz)).setCell ⟨aq,8,none⟩ (D aQ aT aU)).setCell ⟨aq,9,none⟩ (J (E.aB aD.num))).setCell ⟨aq,10,none⟩ (D bq bx bt)).setCell ⟨aq,11,none⟩ (D br bz bu)).setCell ⟨aq,12,none⟩ (D a2 s.y.length cy)).setCell ⟨aq,13,none⟩ (J ok)) [J false,D none 0 0,D none 0 0,J false,D none 0 0,D none 0 0,J false,D none 0 0,D none 0 0,J false,D none 0 0,D none 0 0,D none 0 0,J false] [J ba,D aY a7 k1,D a1 a6 a5,J bk,D B2 bj k2,D bb bi bd,J (E.aB sz.num),D aO aS cz,D aQ aT aU,J (E.aB aD.num),D bq bx bt,D br bz bu,D a2 s.y.length cy,J ok]:=dK [J ba,D aY a7 k1,D a1 a6 a5,J bk,D B2 bj k2,D bb bi bd,J (E.aB sz.num),D aO aS cz,D aQ aT aU,J (E.aB aD.num),D bq bx bt,D br bz bu,D a2 s.y.length cy,J ok] 0 g rfl (Nat.le_of_ble_eq_true rfl);replace a:=a.bs b (by omega);replace c:=c.bs b (by omega);replace f:=f.bs b (by omega);replace g:=b.new;replace d:=d.bs b (by omega);clear b;generalize((((((((((((((p).setCell ⟨aq,0,none⟩ (J ba)).setCell ⟨aq,1,none⟩ (D aY a7 k1)).setCell ⟨aq,2,none⟩ (D a1 a6 a5)).setCell ⟨aq,3,none⟩ (J bk)).setCell ⟨aq,4,none⟩ (D B2 bj k2)).setCell ⟨aq,5,none⟩ (D bb bi bd)).setCell ⟨aq,6,none⟩ (J (E.aB sz.num))).setCell ⟨aq,7,none⟩ (D aO aS cz)).setCell ⟨aq,8,none⟩ (D aQ aT aU)).setCell ⟨aq,9,none⟩ (J (E.aB aD.num))).setCell ⟨aq,10,none⟩ (D bq bx bt)).setCell ⟨aq,11,none⟩ (D br bz bu)).setCell ⟨aq,12,none⟩ (D a2 s.y.length cy)).setCell ⟨aq,13,none⟩ (J ok)=cd at*;obtain⟨p,dC⟩:∃dr,dr=cd:=⟨_,rfl⟩;subst dC;clear B C F aG aJ aK aL;have B:=a.k 39;have C:=a.k 40;have F:=a.k 41;have aG:=a.k 42;have aJ:=a.k 43;have aK:=a.k 44;have aL:=a.k 45;clear Q R T;have Q:=c.k 0;have R:=c.k 1;have T:=c.k 2;clear ay aA aB;have ay:=f.k 0;have aA:=f.k 1;have aB:=f.k 2;refine ax n (by exact⟨d,a.cy 39 7,c.cz,f.cz,a⟩) (λt=> ?_);clear n K)
      |(with_reducible show b5 _ _ _ _ _ _ _ _ _ _
        first
         |refine av (i:=22) rfl (λK ds=> ?_) ?_
         |refine av (i:=24) rfl (λK eU=> ?_) ?_
         |refine av (i:=25) rfl (λK e0=> ?_) ?_
         |exact bm)
      |(with_reducible show bJ _ _ _ _ _ _ _ _ _
        first
         |refine ak [22,24] ?_
         |refine ak [22] ?_
         |refine ak [24] ?_
         |refine ak [25] ?_
         |refine aa 23 ?_
         |refine aW (by decide +kernel) (aX ?_) _)
      |fail
     all_goals try clear t
     all_goals
      have fx:=fK;go_wp2_with fail
      go_meet
      exact⟨aq,rfl,fx,g,d⟩
    case rest=>
     obtain⟨bE,rfl,gy,g,bs⟩:=hcut;have gB:=a.lt;have gG:=l.lt
     have ef:Y (∀c9,(D ct s.tries.length cv).ownBlock=U c9->c9≠bE):=G (λc9 ft e=>by
      have gr:=(aP.lt y c9 ft).2;omega)
     revert L l y x z hw A a W M N c;refine au bs ?_;intro L l y x z hw A a W M N c;revert f o j bl;refine bf bs ?_;intro f o j bl
     clear d bs bZ;go_upto_region 8 with fail
     have d:=bl;have gD:s.tries.length<=1000:=fy;obtain⟨fD,cW⟩:∃fC,Y ((s.tries++[(⟨s.t,s.want,sz,aD,s.y,ok⟩:Z.Tr)]).length=fC):=⟨_,G rfl⟩;have bA:=a.k 38;obtain⟨bG,bH,bP,bQ,bR,bT,bU,bV,bW,bX,bI,bK,bL,P⟩:=g.c8;revert L l y x z hw A a W M N c;refine au (V.refl wc).drew ?_;intro L l y x z hw A a W M N c;revert g f o j d bA bG bH bP bQ bR bT;refine au (V.refl wc).drew ?_;intro g f o j d bA bG bH bP bQ bR bT;revert bU bV bW bX bI bK bL P;refine b9 (V.refl wc).drew ?_;intro bU bV bW bX bI bK bL P
     refine aZ ?_;refine a3 (S:=λao=>V w0 ao/\Cz ao bE 0 [J ba,D aY a7 k1,D a1 a6 a5,J bk,D B2 bj k2,D bb bi bd,J (E.aB sz.num),D aO aS cz,D aQ aT aU,J (E.aB aD.num),D bq bx bt,D br bz bu,D a2 s.y.length cy,J ok]) (by kernel_rfl) (by exact⟨d,g.cz⟩) (λt=> ?_);generalize wc.drew=p at*;refine aa 0 ?_;refine aa 1 ?_;refine aa 2 ?_;refine aa 3 ?_;refine aa 4 ?_;refine aa 6 ?_
     repeat' first
      |(have n:=e9;clear e9
        (try clear t)
        go_simp;refine ax n (by exact⟨d,g.cz⟩) (λt=> ?_);clear n K)
      |(have n:=fn;clear fn
        (try clear t)
        go_simp;have fJ:=a.lt;have gP:=l.lt;have f7:=c.lt;have gb:=f.lt;have gJ:=o.lt;have gn:=j.lt;have g2:=g.lt;have gQ:=d.size;generalize bh:p.heap.size=gp at*;generalize u:ah p _=p at*;obtain⟨aw,cP⟩:=b3 u bh;clear u bh;revert L l y x z hw A a W M N c;refine au aw ?_;intro L l y x z hw A a W M N c;revert g f o j d bA;refine bO aw ?_;intro g f o j d bA
        clear bG bH bP bQ bR bT bU bV bW bX bI bK bL P;obtain⟨bG,bH,bP,bQ,bR,bT,bU,bV,bW,bX,bI,bK,bL,P⟩:=g.c8;clear aw;refine ax n (by exact⟨d,g.cz⟩) (λt=> ?_);clear n K)
      |(have n:=bB;clear bB
        (try clear t)
        have d7:eh 100000 130 p [J ba,D aY a7 k1,D a1 a6 a5,J bk,D B2 bj k2,D bb bi bd,J (E.aB sz.num),D aO aS cz,D aQ aT aU,J (E.aB aD.num),D bq bx bt,D br bz bu,D a2 s.y.length cy,J ok] ⟨s.t,s.want,sz,aD,s.y,ok⟩:=eh.mk (r:=⟨s.t,s.want,sz,aD,s.y,ok⟩) (x.mono (by omega)) (hw.mono (by omega)) (L.mono (by omega)) ⟨eb M N,cw.out.mono (by omega)⟩ z;refine fm (by rfl) ?_;refine jx (v:=D ct s.tries.length cv) (ev 100000 130) underlying59 uB uC (by decide) (w0:=w0) (.tmp 87) (.tmp 89) (by rfl) (by rfl) y d (by rfl) cP d7 (by omega) ?_;intro fS cd c6 bn dO dJ;obtain⟨ej,et,rfl⟩:=aP.form c6;rw[cW.out]at c6;rw[cW.out];replace g:Bx 69 cd bE [J ba,D aY a7 k1,D a1 a6 a5,J bk,D B2 bj k2,D bb bi bd,J (E.aB sz.num),D aO aS cz,D aQ aT aU,J (E.aB aD.num),D bq bx bt,D br bz bu,D a2 s.y.length cy,J ok]:=(dJ.block bE g.lt (λe=>ef.out bE e.symm rfl)).trans g;replace y:dd 100000 130 w0 cd (D ej fD et) (s.tries++[⟨s.t,s.want,sz,aD,s.y,ok⟩]):=c6;revert L x hw M N;refine b8 bn.1 ?_;intro L x hw M N
        replace z:aF 130 cd (D a2 s.y.length cy) s.y:=bn.own (aR 130) (by decide) z;replace W:aF 130 cd (D cq aI.2.next.length cr) aI.2.next:=bn.own (aR 130) (by decide) W;replace A:=A.ap bn;replace a:=bn.bx (by decide) a;replace l:=bn.bx (by decide) l;replace c:=bn.bx (by decide) c;replace f:=bn.bx (by decide) f;replace o:=bn.bx (by decide) o;replace j:=bn.bx (by decide) j;replace d:=dO;clear dO dJ bn c6 cP d7;obtain⟨p,dC⟩:∃dr,dr=cd:=⟨_,rfl⟩;subst dC;clear bA;have bA:=a.k 38;clear bG bH bP bQ bR bT bU bV bW bX bI bK bL P;obtain⟨bG,bH,bP,bQ,bR,bT,bU,bV,bW,bX,bI,bK,bL,P⟩:=g.c8;refine ax n (by exact⟨d,g.cz⟩) (λt=> ?_);clear n K)
      |(have n:=dY;clear dY
        (try clear t)
        have ez:=a.k 38;have e8:=a.free 38;go_simp;clear ez e8;generalize u:ag p _ _=p at*;have b:=eJ a u;clear u;replace y:=y.bs b;replace x:=x.kw b.kw;replace z:=z.bs b;replace hw:=hw.kw b.kw;replace L:=L.kw b.kw;replace W:=W.bs b;replace M:=M.kw b.kw;replace N:=N.kw b.kw;replace A:=A.bs b;replace l:=l.bs b;replace c:=c.bs b;replace f:=f.bs b;replace o:=o.bs b;replace j:=j.bs b;replace g:=g.bs b
        try(replace cP:=cP.bs b (by first|omega|(have:=gS;omega)|(have:=fJ;omega)))
        replace a:=b.new;replace d:=d.bs b;clear b;clear bA;have bA:=a.k 38;clear bG bH bP bQ bR bT bU bV bW bX bI bK bL P;obtain⟨bG,bH,bP,bQ,bR,bT,bU,bV,bW,bX,bI,bK,bL,P⟩:=g.c8;refine ax n (by exact⟨d,g.cz⟩) (λt=> ?_);clear n K)
      |(with_reducible show b5 _ _ _ _ _ _ _ _ _ _
        first
         |refine av (i:=5) rfl (λK e9=> ?_) ?_
         |refine av (i:=7) rfl (λK fn=> ?_) ?_
         |refine av (i:=8) rfl (λK bB=> ?_) ?_
         |refine av (i:=12) rfl (λK dY=> ?_) ?_
         |exact bm)
      |(with_reducible show bJ _ _ _ _ _ _ _ _ _
        first
         |refine ak [5,7] ?_
         |refine ak [5] ?_
         |refine ak [7] ?_
         |refine ak [8] ?_
         |refine ak [12] ?_
         |refine ak [5] ?_
         |refine ak [8] ?_
         |refine aa 9 ?_
         |refine aa 10 ?_
         |refine aa 11 ?_
         |refine aW (by decide +kernel) (aX ?_) _)
      |fail
     all_goals try clear t
     all_goals try(have gR:=cP.c8)
     all_goals
      clear bG bH bP bQ bR bT bU bV bW bX bI bK bL P bA;cases ok
      .have dg:Y (Z.more k s=⟨s.tries++[⟨s.t,s.want,sz,aD,s.y,false⟩],s.t,s.y,db⟩):=G dL.out;obtain⟨X,ab,ai,an⟩:=l.c4;have a9:=l.free;have aE:=j.c4;have P:=g.k 13;go_wp2_with fail;have Q:=c.k 0;have R:=c.k 1;have T:=c.k 2;have ay:=f.k 0;have aA:=f.k 1;have aB:=f.k 2;clear Q R T ay aA aB P;revert x z hw L M N A l c f a y;refine au (V.refl p).drew ?_;intro x z hw L M N A l c f a y;revert j d g X ab ai an;refine bS (V.refl p).drew ?_;intro j d g X ab ai an
       replace a9:=l.free;have Q:=c.k 0;have R:=c.k 1;have T:=c.k 2;have ay:=f.k 0;have aA:=f.k 1;have aB:=f.k 2;replace aE:=j.c4;have P:=g.k 13;refine aZ ?_;refine a3 (S:=λao=>V w0 ao/\Cz ao g3 0 [J (E.aB sz.num),D aO aS cz,D aQ aT aU]/\Cz ao (c8.heap.size) 0 [J (E.aB aD.num),D bq bx bt,D br bz bu]/\Pt ao (gs) 11 [J s1,D A1 l1.length c1,D D1 m1.length e1,J s2,D A2 l2.length c2,D D2 m2.length e2,J s3,D A3 l3.length c3,D D3 m3.length e3,J s4,D A4 l4.length c4,D D4 m4.length e4,J s5,D A5 l5.length c5,D D5 m5.length e5,H I fi,H I mo]) (by kernel_rfl) (by exact⟨d,c.cz,f.cz,Pt.of a rfl⟩) (λt=> ?_);generalize p.drew=p at*;refine aa 0 ?_;refine aa 1 ?_;refine aa 2 ?_;refine aa 3 ?_;refine aa 4 ?_
       (refine wpAnyH_take (i:=5) (v:=af #[J s1,D A1 l1.length c1,D D1 m1.length e1,J s2,D A2 l2.length c2,D D2 m2.length e2,J s3,D A3 l3.length c3,D D3 m3.length e3,J s4,D A4 l4.length c4,D D4 m4.length e4,J s5,D A5 l5.length c5,D D5 m5.length e5,H I fi,H I mo]) rfl (by kernel_rfl) (by decide +kernel) (by decide +kernel) (λ_ _ _ bF=>bF) (Or.inl ⟨by rfl,λw cn=>uA (off:=11) rfl rfl hh hi cn.2.2.2 rfl⟩) (by assumption) ?_;try simp only[bc,bg])
       refine aa 6 ?_;refine aa 7 ?_
       repeat' first
        |(have n:=bB;clear bB
          (try clear t)
          go_simp;go_at_call 10
          with_reducible refine(pH (dc.up d) (dH.up d) (F3.up d) (dI.up d) L.fr (by omega) ((eb M N).fr cw.out) (by omega) dQ dR).mono ?_
          rintro e p ⟨dP,rfl,wv,ar⟩;revert x z hw L M N A l c f a y;refine au ar ?_;intro x z hw L M N A l c f a y;revert j d g;refine bo ar ?_;intro j d g
          try(replace aN:=aN.up ar)
          replace a9:=l.free;clear X ab ai an;obtain⟨X,ab,ai,an⟩:=l.c4;clear Q R T;have Q:=c.k 0;have R:=c.k 1;have T:=c.k 2;clear ay aA aB;have ay:=f.k 0;have aA:=f.k 1;have aB:=f.k 2;replace aE:=j.c4;clear P;have P:=g.k 13;clear ar;rw[cY.out]at wv;obtain⟨el,en,rfl,wv,aN⟩:=wv;obtain⟨ea,fG,eN,rfl⟩:=wv.shape;obtain⟨ed,fH,eO,rfl⟩:=aN.shape
          try go_wp2_with fail
          refine ax n (by exact⟨d,c.cz,f.cz,Pt.of a rfl⟩) (λt=> ?_);clear n K)
        |(have n:=cN;clear cN
          (try clear t)
          have dw:=a.k 43;have dx:=a.k 44;have dy:=a.k 45;have dz:=a.free 43;have dA:=a.free 44;have dB:=a.free 45;go_simp;clear dw dx dy dz dA dB;generalize u:ag (ag (ag p _ _) _ _) _ _=p at*;have b:=dh a u;clear u;replace y:=y.bs b;replace x:=x.kw b.kw;replace z:=z.bs b;revert hw L M N;refine bf b.kw ?_;intro hw L M N
          replace A:=A.bs b
          try(replace wv:=wv.kw b.kw)
          try(replace aN:=aN.kw b.kw)
          replace l:=l.bs b;replace c:=c.bs b;replace f:=f.bs b;replace j:=j.bs b;replace g:=g.bs b;replace a:=b.new;replace d:=d.bs b;clear b;replace a9:=l.free;clear X ab ai an;obtain⟨X,ab,ai,an⟩:=l.c4;clear Q R T;have Q:=c.k 0;have R:=c.k 1;have T:=c.k 2;clear ay aA aB;have ay:=f.k 0;have aA:=f.k 1;have aB:=f.k 2;replace aE:=j.c4;clear P;have P:=g.k 13;refine ax n (by exact⟨d,c.cz,f.cz,Pt.of a rfl⟩) (λt=> ?_);clear n K)
        |(with_reducible show b5 _ _ _ _ _ _ _ _ _ _
          first
           |refine av (i:=8) rfl (λK bB=> ?_) ?_
           |refine av (i:=11) rfl (λK cN=> ?_) ?_
           |exact bm)
        |(with_reducible show bJ _ _ _ _ _ _ _ _ _
          first
           |refine ak [8] ?_
           |refine ak [11] ?_
           |refine aa 9 ?_
           |refine aa 10 ?_
           |refine aW (by decide +kernel) (aX ?_) _)
        |fail
       all_goals try clear t
       go_wp2_with fail;generalize u:ag (ag (ag (ag p _ _) _ _) _ _) _ _=fT at*;have b:=bp l u;clear u;replace y:=y.bs b;replace x:=x.kw b.kw;replace z:=z.bs b;revert hw L M N;refine bf b.kw ?_;intro hw L M N
       replace A:=A.eF b (by omega);replace wv:=wv.kw b.kw;replace aN:=aN.kw b.kw;replace a:=a.bs b;replace c:=c.bs b;replace f:=f.bs b;replace j:=j.bs b;replace g:=g.bs b;replace l:=b.new;replace d:=d.bs b;clear b;clear X ab ai an Q R T ay aA aB P;obtain⟨X,ab,ai,an⟩:=l.c4;replace aE:=j.c4;exact a4 (cl rfl rfl bM bN l rfl) rfl ⟨by rw[b6.out];rfl,d,A,λ_=>dD.mk dg.out cW.out rfl a y (x.mono (by omega)) z ⟨eb wv aN,dN.out⟩,λe=>absurd b6.out e⟩
      .have dg:Y (Z.more k s=⟨s.tries++[⟨s.t,s.want,sz,aD,s.y,true⟩],dG,aI.2.next,db⟩):=G dL.out;obtain⟨X,ab,ai,an⟩:=l.c4;have a9:=l.free;have aE:=j.c4;have P:=g.k 13;go_wp2_with fail;have B:=a.k 39;have C:=a.k 40;have F:=a.k 41;have Q:=c.k 0;have R:=c.k 1;have T:=c.k 2;have a8:=o.k 2;clear Q R T a8 P;revert x z hw L W M N A l c a y;refine au (V.refl p).drew ?_;intro x z hw L W M N A l c a y;revert f o j d g X ab ai an B C F;refine au (V.refl p).drew ?_;intro f o j d g X ab ai an B C F
       replace a9:=l.free;have Q:=c.k 0;have R:=c.k 1;have T:=c.k 2;have a8:=o.k 2;replace aE:=j.c4;have P:=g.k 13;refine aZ ?_;refine a3 (S:=λao=>V w0 ao/\Cz ao g3 0 [J (E.aB sz.num),D aO aS cz,D aQ aT aU]/\Cz ao cD 2 [D cq aI.2.next.length cr]) (by kernel_rfl) (by exact⟨d,c.cz,o.cy 2 1⟩) (λt=> ?_);generalize p.drew=p at*;refine aa 0 ?_;refine aa 1 ?_;refine aa 2 ?_;refine aa 3 ?_;refine aa 4 ?_;refine aa 5 ?_;refine aa 7 ?_;refine aa 9 ?_;refine aa 10 ?_
       repeat' first
        |(have n:=fc;clear fc
          (try clear t)
          go_simp;refine ax n (by exact⟨d,c.cz,o.cy 2 1⟩) (λt=> ?_);clear n K)
        |(have n:=bB;clear bB
          (try clear t)
          go_simp;go_at_call 61
          with_reducible refine(gc x.fr L.fr (by omega) (by omega)).mono ?_
          rintro e p ⟨dP,rfl,aM,ar⟩;revert x z hw L W M N A l c a y;refine au ar ?_;intro x z hw L W M N A l c a y;revert f o j d g B C F;refine b9 ar ?_;intro f o j d g B C F
          try(replace aV:=aV.up ar)
          replace a9:=l.free;clear X ab ai an;obtain⟨X,ab,ai,an⟩:=l.c4;clear Q R T;have Q:=c.k 0;have R:=c.k 1;have T:=c.k 2;clear a8;have a8:=o.k 2;replace aE:=j.c4;clear P;have P:=g.k 13;clear ar;rw[dj.out]at aM;obtain⟨fX,f1,rfl,aM,aV⟩:=aM;obtain⟨fL,gK,ge,rfl⟩:=aM.shape;obtain⟨fM,gL,gh,rfl⟩:=aV.shape
          try go_wp2_with fail
          refine ax n (by exact⟨d,c.cz,o.cy 2 1⟩) (λt=> ?_);clear n K)
        |(have n:=cO;clear cO
          (try clear t)
          have eA:=a.k 39;have eE:=a.k 40;have eF:=a.k 41;have fa:=a.free 39;have fd:=a.free 40;have fe:=a.free 41;go_simp;clear eA eE eF fa fd fe;generalize u:ag (ag (ag p _ _) _ _) _ _=p at*;have b:=dh a u;clear u;replace y:=y.bs b;replace x:=x.kw b.kw;replace z:=z.bs b;replace hw:=hw.kw b.kw;replace L:=L.kw b.kw;replace W:=W.bs b;replace M:=M.kw b.kw;replace N:=N.kw b.kw;replace A:=A.bs b
          try(replace aM:=aM.kw b.kw)
          try(replace aV:=aV.kw b.kw)
          replace l:=l.bs b;replace c:=c.bs b;replace f:=f.bs b;replace o:=o.bs b;replace j:=j.bs b;replace g:=g.bs b;replace a:=b.new;replace d:=d.bs b;clear b;clear B C F;have B:=a.k 39;have C:=a.k 40;have F:=a.k 41;replace a9:=l.free;clear X ab ai an;obtain⟨X,ab,ai,an⟩:=l.c4;clear Q R T;have Q:=c.k 0;have R:=c.k 1;have T:=c.k 2;clear a8;have a8:=o.k 2;replace aE:=j.c4;clear P;have P:=g.k 13;refine ax n (by exact⟨d,c.cz,o.cy 2 1⟩) (λt=> ?_);clear n K)
        |(have n:=ee;clear ee
          (try clear t)
          have eG:=a.k 42;have ff:=a.free 42;go_simp;clear eG ff;generalize u:ag p _ _=p at*;have b:=eJ a u;clear u;replace y:=y.bs b;replace x:=x.kw b.kw;replace z:=z.bs b;replace hw:=hw.kw b.kw;replace L:=L.kw b.kw;replace W:=W.bs b;replace M:=M.kw b.kw;replace N:=N.kw b.kw;replace A:=A.bs b
          try(replace aM:=aM.kw b.kw)
          try(replace aV:=aV.kw b.kw)
          replace l:=l.bs b;replace c:=c.bs b;replace f:=f.bs b;replace o:=o.bs b;replace j:=j.bs b;replace g:=g.bs b;replace a:=b.new;replace d:=d.bs b;clear b;clear B C F;have B:=a.k 39;have C:=a.k 40;have F:=a.k 41;replace a9:=l.free;clear X ab ai an;obtain⟨X,ab,ai,an⟩:=l.c4;clear Q R T;have Q:=c.k 0;have R:=c.k 1;have T:=c.k 2;clear a8;have a8:=o.k 2;replace aE:=j.c4;clear P;have P:=g.k 13;refine ax n (by exact⟨d,c.cz,o.cy 2 1⟩) (λt=> ?_);clear n K)
        |(with_reducible show b5 _ _ _ _ _ _ _ _ _ _
          first
           |refine av (i:=6) rfl (λK fc=> ?_) ?_
           |refine av (i:=8) rfl (λK bB=> ?_) ?_
           |refine av (i:=14) rfl (λK cO=> ?_) ?_
           |refine av (i:=18) rfl (λK ee=> ?_) ?_
           |exact bm)
        |(with_reducible show bJ _ _ _ _ _ _ _ _ _
          first
           |refine ak [6] ?_
           |refine ak [8] ?_
           |refine ak [14] ?_
           |refine ak [18] ?_
           |refine ak [6] ?_
           |refine aa 11 ?_
           |refine aa 12 ?_
           |refine aa 13 ?_
           |refine aa 15 ?_
           |refine aa 16 ?_
           |refine aa 17 ?_
           |refine aW (by decide +kernel) (aX ?_) _)
        |fail
       all_goals try clear t
       go_wp2_with fail;have ay:=f.k 0;have aA:=f.k 1;have aB:=f.k 2;clear Q R T ay aA aB a8 P;revert y x z hw L W M N A aM aV a;refine au (V.refl p).drew ?_;intro y x z hw L W M N A aM aV a;revert l c f o j g d B C F X ab;refine au (V.refl p).drew ?_;intro l c f o j g d B C F X ab;revert ai an;refine cR (V.refl p).drew ?_;intro ai an
       replace a9:=l.free;have Q:=c.k 0;have R:=c.k 1;have T:=c.k 2;have ay:=f.k 0;have aA:=f.k 1;have aB:=f.k 2;have a8:=o.k 2;replace aE:=j.c4;have P:=g.k 13;refine aZ ?_;refine a3 (S:=λao=>V w0 ao/\Cz ao g3 0 [J (E.aB sz.num),D aO aS cz,D aQ aT aU]/\Cz ao (c8.heap.size) 0 [J (E.aB aD.num),D bq bx bt,D br bz bu]/\Pt ao (gs) 11 [J s1,D A1 l1.length c1,D D1 m1.length e1,J s2,D A2 l2.length c2,D D2 m2.length e2,J s3,D A3 l3.length c3,D D3 m3.length e3,J s4,D A4 l4.length c4,D D4 m4.length e4,J s5,D A5 l5.length c5,D D5 m5.length e5,H I fi,H I mo]) (by kernel_rfl) (by exact⟨d,c.cz,f.cz,Pt.of a rfl⟩) (λt=> ?_);generalize p.drew=p at*;refine aa 0 ?_;refine aa 1 ?_;refine aa 2 ?_;refine aa 3 ?_;refine aa 4 ?_
       (refine wpAnyH_take (i:=5) (v:=af #[J s1,D A1 l1.length c1,D D1 m1.length e1,J s2,D A2 l2.length c2,D D2 m2.length e2,J s3,D A3 l3.length c3,D D3 m3.length e3,J s4,D A4 l4.length c4,D D4 m4.length e4,J s5,D A5 l5.length c5,D D5 m5.length e5,H I fi,H I mo]) rfl (by kernel_rfl) (by decide +kernel) (by decide +kernel) (λ_ _ _ bF=>bF) (Or.inl ⟨by rfl,λw cn=>uA (off:=11) rfl rfl hh hi cn.2.2.2 rfl⟩) (by assumption) ?_;try simp only[bc,bg])
       refine aa 6 ?_;refine aa 7 ?_
       repeat' first
        |(have n:=bB;clear bB
          (try clear t)
          go_simp;go_at_call 10
          with_reducible refine(pH (dc.up d) (dH.up d) (F3.up d) (dI.up d) L.fr (by omega) ((eb M N).fr cw.out) (by omega) dQ dR).mono ?_
          rintro e p ⟨dP,rfl,wv,ar⟩;revert y x z hw L W M N A aM aV a;refine au ar ?_;intro y x z hw L W M N A aM aV a;revert l c f o j g d B C F;refine bw ar ?_;intro l c f o j g d B C F
          try(replace aN:=aN.up ar)
          replace a9:=l.free;clear X ab ai an;obtain⟨X,ab,ai,an⟩:=l.c4;clear Q R T;have Q:=c.k 0;have R:=c.k 1;have T:=c.k 2;clear ay aA aB;have ay:=f.k 0;have aA:=f.k 1;have aB:=f.k 2;clear a8;have a8:=o.k 2;replace aE:=j.c4;clear P;have P:=g.k 13;clear ar;rw[cY.out]at wv;obtain⟨el,en,rfl,wv,aN⟩:=wv;obtain⟨ea,fG,eN,rfl⟩:=wv.shape;obtain⟨ed,fH,eO,rfl⟩:=aN.shape
          try go_wp2_with fail
          refine ax n (by exact⟨d,c.cz,f.cz,Pt.of a rfl⟩) (λt=> ?_);clear n K)
        |(have n:=cN;clear cN
          (try clear t)
          have dw:=a.k 43;have dx:=a.k 44;have dy:=a.k 45;have dz:=a.free 43;have dA:=a.free 44;have dB:=a.free 45;go_simp;clear dw dx dy dz dA dB;generalize u:ag (ag (ag p _ _) _ _) _ _=p at*;have b:=dh a u;clear u;replace y:=y.bs b;replace x:=x.kw b.kw;replace z:=z.bs b;replace hw:=hw.kw b.kw;replace L:=L.kw b.kw;replace W:=W.bs b;replace M:=M.kw b.kw;replace N:=N.kw b.kw;replace A:=A.bs b;replace aM:=aM.kw b.kw;replace aV:=aV.kw b.kw
          try(replace wv:=wv.kw b.kw)
          try(replace aN:=aN.kw b.kw)
          replace l:=l.bs b;replace c:=c.bs b;replace f:=f.bs b;replace o:=o.bs b;replace j:=j.bs b;replace g:=g.bs b;replace a:=b.new;replace d:=d.bs b;clear b;clear B C F;have B:=a.k 39;have C:=a.k 40;have F:=a.k 41;replace a9:=l.free;clear X ab ai an;obtain⟨X,ab,ai,an⟩:=l.c4;clear Q R T;have Q:=c.k 0;have R:=c.k 1;have T:=c.k 2;clear ay aA aB;have ay:=f.k 0;have aA:=f.k 1;have aB:=f.k 2;clear a8;have a8:=o.k 2;replace aE:=j.c4;clear P;have P:=g.k 13;refine ax n (by exact⟨d,c.cz,f.cz,Pt.of a rfl⟩) (λt=> ?_);clear n K)
        |(with_reducible show b5 _ _ _ _ _ _ _ _ _ _
          first
           |refine av (i:=8) rfl (λK bB=> ?_) ?_
           |refine av (i:=11) rfl (λK cN=> ?_) ?_
           |exact bm)
        |(with_reducible show bJ _ _ _ _ _ _ _ _ _
          first
           |refine ak [8] ?_
           |refine ak [11] ?_
           |refine aa 9 ?_
           |refine aa 10 ?_
           |refine aW (by decide +kernel) (aX ?_) _)
        |fail
       all_goals try clear t
       go_wp2_with fail;generalize u:ag (ag (ag (ag p _ _) _ _) _ _) _ _=fU at*;have b:=bp l u;clear u;replace y:=y.bs b;replace x:=x.kw b.kw;replace z:=z.bs b;replace hw:=hw.kw b.kw;replace L:=L.kw b.kw;replace W:=W.bs b;replace M:=M.kw b.kw;replace N:=N.kw b.kw;replace A:=A.eF b (by omega);revert aM aV wv aN;refine bf b.kw ?_;intro aM aV wv aN
       replace a:=a.bs b;replace c:=c.bs b;replace f:=f.bs b;replace o:=o.bs b;replace j:=j.bs b;replace g:=g.bs b;replace l:=b.new;replace d:=d.bs b;clear b;clear X ab ai an B C F Q R T ay aA aB a8 P;obtain⟨X,ab,ai,an⟩:=l.c4;replace aE:=j.c4;exact a4 (cl rfl rfl bM bN l rfl) rfl ⟨by rw[b6.out];rfl,d,A,λ_=>dD.mk dg.out cW.out rfl a y ⟨eb aM aV,ei.out⟩ W ⟨eb wv aN,dN.out⟩,λe=>absurd b6.out e⟩
end Go.Proofs.YtjopfpegcckllaaGreatDoor
