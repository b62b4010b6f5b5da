/- A part of TopStops's proof: SvDig. -/
import Derived.Lib.Strings
import Derived.Lib.Slices
import Derived.Lib.Walk
import Derived.Lib.Bytealg
import Derived.Laws.RangeString
import Derived.Laws.RangeAny
import Derived.LoopN
import Derived.Test.YtjopfpegcckllaaGreatDoorZqAi
import Derived.Test.YtjopfpegcckllaaGreatDoorZqAj
set_option linter.all false
set_option maxRecDepth 100000
set_option maxHeartbeats 12800000
open Go.Proofs.Tryz
open Go renaming Oper→bt,Act→a6,World→O,Value→W,Calls→aj,Addr→am,maxLen→cm,TypeId→an,Ending→aO,wpList→bG,sizeOf→ci,rounds_succ→a9,isAgg→ct,bodyPost_ret→a4,wp_region_noPanic→aZ,wp_region_held_drew→a3,wpAnyH_done→aW
open Go.Act renaming put→bg
open Go.AllReadyH renaming cons→av,nil→bm
open Go.Ending renaming returned→aw
open Go.IntKind renaming i64→I
open Go.Lib renaming hid→G
open Go.NoPanic renaming normal→aX
open Go.Proofs.Tryz renaming prog→ae
open Go.RowKit renaming Hid→Y
open Go.Value renaming tuple→aY,int→H,bool→J,slice→D,agg→af,pointer→az,string→al
open Go.World renaming setCell→ag,alloc→ah
open List renaming replicate→bA
open Nat renaming le_trans→aQ
open Option renaming some→U
variable {s1 s2 s3 s4 s5 sE sF sS:Bool}{Q:Go.Exit->a6->O->Prop}{fi mo:Int}{l:List Int}{l1 l2 l3 l4 l5 m1 m2 m3 m4 m5:List Nat}{cs new old us:List W}{aH c c1 c2 c3 c4 c5 cB cE cH cK cS ca cb cc ce cp d dE dF dS e1 e2 e3 e4 e5 g gs i m mE mF mS n nE nF nK nS off:Nat}{ab w w0 w1:O}{A A1 A2 A3 A4 A5 AE AF AS D1 D2 D3 D4 D5 DE DF DS PA SA SB SC SE TA TB YK:Option am}{v:W}{a:a6}{S T:an}{o:bt}
namespace Go.Proofs.YtjopfpegcckllaaGreatDoor
open Go.RowKit
theorem ud (f:∀w:O,(ct T).run ae w= .ok true w)(e:∀w:O,(ci T).run ae w= .ok n w)(hb:Bx S w g cs)(l:(cs.drop off).take n=us)(k:us.length=n):
 (loadVar T ⟨g,off,none⟩).run ae w= .ok (af us.toArray) w:=by
 subst k
 have j:=run_loadCells_list (P:=ae) w ⟨g,off,none⟩ us (λa m b=>by
  have c:(⟨g,off,none⟩:am).add a=⟨g,off+a,none⟩:=by unfold Addr.add;by_cases d:a=0<;>simp[d]
  rw[c];have i:a<us.length:=(List.getElem?_eq_some_iff.1 b).1;rw[<-l,List.getElem?_take_of_lt i,List.getElem?_drop]at b;exact hb.cell b)
 simp only[loadVar,Sem.run_bind,f,e,j,Result.andThen,if_true,Sem.run_pure]
theorem fY {x:Operand}(f:o.op=Op.load T x)(j:a.eval x=az (U ⟨g,off,none⟩))
 (c:∀w:O,(ct T).run ae w= .ok true w)(b:∀w:O,(ci T).run ae w= .ok n w)(hb:Bx S w g cs)(i:(cs.drop off).take n=us)(e:us.length=n):
 (execOp a.eval o).run ae w= .ok (.value (af us.toArray)) w:=by
 have d:=ud c b hb i e;unfold execOp;simp only[f,j,asAddr,Instr.loadAt,Instr.sureAddr,Oper.upon,Sem.run_bind,Sem.run_pure,Result.andThen_ok,d]
theorem ex {aV:Array bt}{rest:List bt}(x:Operand)(i:o.op=Op.load T x)(hw:Region.wanted o (yielded aV a.tmps)=true)(k:a.eval x=az (U ⟨g,off,none⟩))
 (d:∀w:O,(ct T).run ae w= .ok true w)(c:∀w:O,(ci T).run ae w= .ok n w)(hb:Bx S w g cs)(j:(cs.drop off).take n=us)(f:us.length=n)
 (h:bG ae aV Q rest (a.put o.dst (af us.toArray)) w):bG ae aV Q (o::rest) a w:=by
 have e:=ud d c hb j f;refine wpList_step λl b=> ?_
 rw[if_pos hw];unfold Oper.wp execOp;simp only[i,k,asAddr,Instr.loadAt,Instr.sureAddr,Oper.upon,Sem.run_bind,Sem.run_pure,Result.andThen_ok,e];exact b _ _ h
theorem iw (w:O):(ci 49).run ae w= .ok 11 w:=by kernel_rfl
theorem hh (w:O):(ct 55).run ae w= .ok true w:=by kernel_rfl
theorem hi (w:O):(ci 55).run ae w= .ok 17 w:=by kernel_rfl
theorem hP (w:O):(ct 57).run ae w= .ok true w:=by kernel_rfl
theorem hQ (w:O):(ci 57).run ae w= .ok 38 w:=by kernel_rfl
def dd (k a:Nat)(w0 w:O)(v:W)(trs:List Z.Tr):Prop:=aP (eh k a) 14 69 w0.heap.size w v trs
theorem dd.up {k ky:Nat}{w0 w ab:O}{v:W}{trs:List Z.Tr}(h:dd k ky w0 w v trs)(a:V w ab):dd k ky w0 ab v trs:=aP.up (ev k ky) h a
instance dd.bW {k ky:Nat} {w0 w ab:O} {v:W} {trs:List Z.Tr}:Lu (V w ab) (dd k ky w0 w v trs) (dd k ky w0 ab v trs):=bu λu h=>h.up u
theorem dd.form {k ky:Nat}{w0 w:O}{v:W}{trs:List Z.Tr}(h:dd k ky w0 w v trs):∃a c,v=D a trs.length c:=aP.form h
theorem dd.sn {k ky:Nat}{w0 w:O}{v:W}{trs:List Z.Tr}(h:dd k ky w0 w v trs):Sn (eh k ky) w v trs:=aP.sn h
theorem dd.stored {k ky:Nat}{w0 w:O}{v x:W}{trs:List Z.Tr}{S:an}{g i:Nat}{vs:List W}(h:dd k ky w0 w v trs)(hb:Bx S w g vs)(c:53≠S/\69≠S)(b:Kw w (w.setCell ⟨g,i,none⟩ x)):dd k ky w0 (w.setCell ⟨g,i,none⟩ x) v trs:=by
 obtain⟨D,ha,d⟩:=h;refine⟨D,ha.imp λx q ⟨s1,s2,s3,s4,f,l,m,n,o,p,r,s,t,G,K,L,M,c1,c2,c3,c4,B,C,E,F,d1,d2,d3,d4,cy,e,h1,h2,u,y,z⟩=>⟨s1,s2,s3,s4,f,l,m,n,o,p,r,s,t,G,K,L,M,c1,c2,c3,c4,B,C,E,F,d1,d2,d3,d4,cy,e,h1.kw b,h2.kw b,u.kw b,y.kw b,z.stored hb c.1 b⟩,d.kept (row:=U g) ⟨rfl,rfl,rfl,by simp[ag],λj H A=>Below.heap_setCell _ _ _ _ (by simp;exact λe=>A (by rw[e]))⟩ ?_⟩;rcases d.2 with⟨rfl,_⟩|⟨bI,ys,rfl,_,a,_⟩
 .exact .inl rfl
 .refine .inr λe=> ?_
  cases e;unfold Bx at hb a;rw[hb]at a;injection a with a
  injection a with _ a
  exact c.2 a.symm
def Kz (w d:O):Prop:= ∀(a:an) (b:Nat) (c:List W),(a≠97/\a≠69)->Bx a w b c->Bx a d b c
theorem Kz.refl (w:O):Kz w w:=λ_ _ _ _ h=>h
theorem Kz.up {w w1 ab:O}(h:Kz w w1)(b:V w1 ab):Kz w ab:=λS g vs a hb=>(h S g vs a hb).up b
instance Kz.bW {w w1 ab:O}:Lu (V w1 ab) (Kz w w1) (Kz w ab):=bu λu h=>h.up u
theorem Kz.ap (h:Kz w w1)(ha:Ap 69 w1 ab):Kz w ab:=λS g us a b=>ha.bx a.2 (h S g us a b)
theorem Kz.stored {vs:List W}{x:W}(h:Kz w w1)(hb:Bx S w1 g vs)(d:S=97)(f:Kw w1 (w1.setCell ⟨g,i,none⟩ x)):Kz w (w1.setCell ⟨g,i,none⟩ x):=λb bI us a c=>(h b bI us a c).ck (p:=⟨g,i,none⟩) (λe=>by
 simp only at e;subst e;subst d;exact a.1 (hL (h b _ us a c) hb)) x
theorem eh.bs {k ky:Nat}{T:an}{g:Nat}{w ab:O}{x:List W}{r:Z.Tr}{old new:List W}(h:eh k ky w x r)(b:Bs T g w ab old new)(s:53≠T:=by decide):eh k ky ab x r:=by
 obtain⟨s1,s2,s3,s4,a,c,d,f,i,j,l,m,n,z,A,B,C,c1,c2,c3,c4,t,u,v,y,d1,d2,d3,d4,cy,e,h1,h2,o,p,q⟩:=h;exact⟨s1,s2,s3,s4,a,c,d,f,i,j,l,m,n,z,A,B,C,c1,c2,c3,c4,t,u,v,y,d1,d2,d3,d4,cy,e,h1.kw b.kw,h2.kw b.kw,o.kw b.kw,p.kw b.kw,q.bs b s⟩
theorem dd.bs {k ky:Nat}{T:an}{g:Nat}{w0 w ab:O}{v:W}{trs:List Z.Tr}{old new:List W}(h:dd k ky w0 w v trs)(b:Bs T g w ab old new)(a:53≠T/\69≠T:=by decide):dd k ky w0 ab v trs:=by
 have c:=kE h b.old a.2;obtain⟨f,ha,d⟩:=h;exact⟨f,ha.imp λx q e=>e.bs b a.1,d.kept b.gr c⟩
theorem dd.eF {k ky:Nat}{trs:List Z.Tr}(h:dd k ky w0 w v trs)(b:Bs T g w ab old new)(a:v.ownBlock≠U g)(h2:53≠T):dd k ky w0 ab v trs:=by
 obtain⟨e,ha,c⟩:=h;exact⟨e,ha.imp λx q d=>d.bs b h2,c.kept b.gr (.inr a)⟩
theorem Kz.bs (h:Kz w w1)(b:Bs T g w1 ab old new)(f:T=97:=by rfl):Kz w ab:=λc bI us a d=>b.ck (λe=>by
 subst e;subst f;exact a.1 (hL (h c _ us a d) b.old)) (h c bI us a d)
theorem Kz.eF (h:Kz w w1)(b:Bs T g w1 ab old new)(f:w.heap.size<=g):Kz w ab:=λc bI us d a=>b.ck (λe=>by
 have:=a.lt;omega) (h c bI us d a)
def dD (w0 w:O)(p:Nat)(q:List W)(m:Nat)(s:Z.So):Prop:= ∃(e a c f b d:Option am) (n o:Bool) (g k c1 i d1 cy l c2 j d2:Nat),
 Bx 97 w p (q++[D e s.tries.length g,J n,D a k c1,D c i d1,D f s.y.length cy,J o,D b l c2,D d j d2])/\
 dd 100000 130 w0 w (D e s.tries.length g) s.tries/\Qk m w (af #[J n,D a k c1,D c i d1]) s.t/\aF 130 w (D f s.y.length cy) s.y/\Qk m w (af #[J o,D b l c2,D d j d2]) s.want
theorem dD.up {w0 w ab:O}{gs m:Nat}{tc:List W}{s:Z.So}(h:dD w0 w gs tc m s)(a:V w ab):dD w0 ab gs tc m s:=by
 obtain⟨f,b,d,g,c,e,s1,s2,cT,o,c1,l,d1,cy,p,c2,n,d2,h1,h2,i,j,k⟩:=h;exact⟨f,b,d,g,c,e,s1,s2,cT,o,c1,l,d1,cy,p,c2,n,d2,h1.up a,h2.up a,i.up a,j.up a,k.up a⟩
instance dD.bW {w0 w ab:O} {gs m:Nat} {tc:List W} {s:Z.So}:Lu (V w ab) (dD w0 w gs tc m s) (dD w0 ab gs tc m s):=bu λu h=>h.up u
theorem CT {q:Pb}{tG:Nat}{s:Z.So}{stop:Rat}(P:dD w0 w gs [D TA q.code.length aH,D TB q.os.length cB,H I q.ar,H I q.par,al q.nm,D SC q.c.length cc,D SA q.a.length ca,D SB q.b.length cb,D SE q.e.length ce,D PA q.p.length cp,H I q.bits,J s1,D A1 l1.length c1,D D1 m1.length e1,J s2,D A2 l2.length c2,D D2 m2.length e2,J s3,D A3 l3.length c3,D D3 m3.length e3,J s4,D A4 l4.length c4,D D4 m4.length e4,J s5,D A5 l5.length c5,D D5 m5.length e5,H I fi,H I mo,J sS,D AS nS cS,D DS mS dS,J sE,D AE nE cE,D DE mE dE,J sF,D AF nF cH,D DF mF dF,D YK nK cK] m s)(d:Fr w (af #[J sE,D AE nE cE,D DE mE dE]) stop tG)(ab:m<=1000000)(X:tG<=1000000):
 aj ae 31 #[az (U ⟨gs,0,none⟩)] w λe c=>e=aw (J (decide (s.t=stop)))/\V w c:=by
 obtain⟨E,o,p,F,B2,B,A,T,K,z,k1,y,u,cy,R,k2,Q,L,hb,M,f,N,hw⟩:=P;obtain⟨t,r⟩:∃t,Y (decide (s.t=stop)=t):=⟨_,G rfl⟩;rw[r.out];have b:=V.refl w;have a:Bx 97 w gs [D TA q.code.length aH,D TB q.os.length cB,H I q.ar,H I q.par,al q.nm,D SC q.c.length cc,D SA q.a.length ca,D SB q.b.length cb,D SE q.e.length ce,D PA q.p.length cp,H I q.bits,J s1,D A1 l1.length c1,D D1 m1.length e1,J s2,D A2 l2.length c2,D D2 m2.length e2,J s3,D A3 l3.length c3,D D3 m3.length e3,J s4,D A4 l4.length c4,D D4 m4.length e4,J s5,D A5 l5.length c5,D D5 m5.length e5,H I fi,H I mo,J sS,D AS nS cS,D DS mS dS,J sE,D AE nE cE,D DE mE dE,J sF,D AF nF cH,D DF mF dF,D YK nK cK,D E s.tries.length K,J A,D o z k1,D p y u,D F s.y.length cy,J T,D B2 R k2,D B Q L]:=hb;clear M N hw hb;go_enter func31,ntmps31;go_wp2_with fail;replace f:=f.up b;replace d:=d.up b;have g:=a.k 31;have i:=a.k 32;have j:=a.k 33;have k:=a.k 39;have l:=a.k 40;have n:=a.k 41;revert b a f d g i j k l n;refine bw (V.refl w).drew ?_;intro b a f d g i j k l n;refine aZ ?_;refine a3 (S:=λc=>V w c/\c.cell? ⟨gs,31,none⟩=U (J sE)/\c.cell? ⟨gs,32,none⟩=U (D AE nE cE)/\c.cell? ⟨gs,33,none⟩=U (D DE mE dE)/\c.cell? ⟨gs,39,none⟩=U (J A)/\c.cell? ⟨gs,40,none⟩=U (D o z k1)/\c.cell? ⟨gs,41,none⟩=U (D p y u)) (by kernel_rfl) ?_ (λv=> ?_)
 .with_reducible exact⟨b,g,i,j,k,l,n⟩
 refine aa 0 ?_;refine aa 1 ?_;refine aa 2 ?_;refine aa 3 ?_;refine aa 4 ?_;refine aa 5 ?_;refine aa 6 ?_;refine aa 7 ?_;refine aa 8 ?_;refine aa 9 ?_;refine bZ 10 (λC x=> ?_);go_simp
 (first
   |(go_at_call 11
     with_reducible refine(ic f.fr d (by omega) (by omega)).mono ?_
     rintro e W ⟨rfl,u51⟩;revert b a f d g i j k l n;revert u51;refine eG ?_;intro b a f d g i j k l n
     rw[r.out]))
 try go_wp2_with fail
 try clear v
 refine x.out _ _ ?_ (λv=> ?_)
 .with_reducible exact⟨b,g,i,j,k,l,n⟩
 clear x C
 try simp only[bc,bg]
 refine aa 11 ?_;refine aW (by kernel_rfl) ?_ _;refine aX ?_;go_wp2;go_ret;exact⟨rfl,b⟩
def Z.ho (mo:Int)(least:Rat)(s:Z.So):bv:=if(s.tries.length:Int)=mo then(5,s.tries.length+1,0,0)else if s.want<least then(4,s.tries.length+1,0,0)else Z.aG
theorem CU {q:Pb}{s:Z.So}{least:Rat}(aL:dD w0 w gs [D TA q.code.length aH,D TB q.os.length cB,H I q.ar,H I q.par,al q.nm,D SC q.c.length cc,D SA q.a.length ca,D SB q.b.length cb,D SE q.e.length ce,D PA q.p.length cp,H I q.bits,J s1,D A1 l1.length c1,D D1 m1.length e1,J s2,D A2 l2.length c2,D D2 m2.length e2,J s3,D A3 l3.length c3,D D3 m3.length e3,J s4,D A4 l4.length c4,D D4 m4.length e4,J s5,D A5 l5.length c5,D D5 m5.length e5,H I fi,H I mo,J sS,D AS nS cS,D DS mS dS,J sE,D AE nE cE,D DE mE dE,J sF,D AF nF cH,D DF mF dF,D YK nK cK] m s)(f:Fr w (af #[J s5,D A5 l5.length c5,D D5 m5.length e5]) least 1000)(aQ:m<=100000)(aR:s.tries.length<=100000):
 aj ae 32 #[az (U ⟨gs,0,none⟩)] w λe p=>e=aw (cJ (Z.ho mo least s))/\V w p:=by
 obtain⟨ai,X,ab,an,B2,x,aB,W,ao,ay,k1,au,aq,cy,L,k2,K,E,hb,aJ,aM,aK,hw⟩:=aL;have aP:=hb.lt;have aF:Y (IntKind.i64.wrap ((s.tries.length:Int)+1)=(s.tries.length:Int)+1):=G (IntWalk.i64_in _ (by omega));have aS:=aF.out;have c:=V.refl w;have a:Bx 97 w gs [D TA q.code.length aH,D TB q.os.length cB,H I q.ar,H I q.par,al q.nm,D SC q.c.length cc,D SA q.a.length ca,D SB q.b.length cb,D SE q.e.length ce,D PA q.p.length cp,H I q.bits,J s1,D A1 l1.length c1,D D1 m1.length e1,J s2,D A2 l2.length c2,D D2 m2.length e2,J s3,D A3 l3.length c3,D D3 m3.length e3,J s4,D A4 l4.length c4,D D4 m4.length e4,J s5,D A5 l5.length c5,D D5 m5.length e5,H I fi,H I mo,J sS,D AS nS cS,D DS mS dS,J sE,D AE nE cE,D DE mE dE,J sF,D AF nF cH,D DF mF dF,D YK nK cK,D ai s.tries.length ao,J aB,D X ay k1,D ab au aq,D an s.y.length cy,J W,D B2 L k2,D x K E]:=hb;clear aJ aK aM hb;go_enter func32,ntmps32;have t:=a.k 27;have u:=a.k 38;have j:=a.k 43;have k:=a.k 44;have l:=a.k 45
 by_cases n:(s.tries.length:Int)=mo
 .have aN:((s.tries.length:Int)==mo)=true:=by rw[beq_iff_eq];exact n
  have r:Y (Z.ho mo least s=((5,(s.tries.length:Int)+1,0,0):bv)):=G (if_pos n);clear n;have N:=cA t;have P:=cA u;have Q:=cA j;have R:=cA k;have T:=cA l;go_wp2_with fail;clear N P Q R T;generalize g:ah w _=A at*;obtain⟨M,b⟩:=aC g;clear g;have aO:=a.lt;clear t u j k l;revert f hw c a;revert M;refine dW ?_;intro f hw c a
  have o:=b.c4;exact a4 (cl rfl rfl bM bN b rfl) rfl ⟨by rw[r.out];rfl,c⟩
 .have aN:((s.tries.length:Int)==mo)=false:=by rw[beq_eq_false_iff_ne];exact n
  have r:Y (Z.ho mo least s=if s.want<least then((4,(s.tries.length:Int)+1,0,0):bv)else Z.aG):=G (if_neg n);clear n;have N:=cA t;have P:=cA u;have Q:=cA j;have R:=cA k;have T:=cA l;go_wp2_with fail;clear N P Q R T;generalize g:ah w _=A at*;obtain⟨M,b⟩:=aC g;clear g;have aO:=a.lt;have aU:¬(gs=w.heap.size):=by omega
  have aT:¬(w.heap.size=gs):=by omega
  clear t u j k l;revert f hw c a;revert M;refine dW ?_;intro f hw c a
  have o:=b.c4;have aA:=b.free;obtain⟨C,y⟩:∃C,Y (decide (s.want<least)=C):=⟨_,G rfl⟩;have j:=a.k 43;have k:=a.k 44;have l:=a.k 45;revert b f hw c a j k l;refine b9 (V.refl A).drew ?_;intro b f hw c a j k l
  replace o:=b.c4;replace aA:=b.free;refine aZ ?_;refine a3 (S:=λp=>V w p/\Cz p gs 43 [J W,D B2 L k2,D x K E]/\Bx 97 p (gs) [D TA q.code.length aH,D TB q.os.length cB,H I q.ar,H I q.par,al q.nm,D SC q.c.length cc,D SA q.a.length ca,D SB q.b.length cb,D SE q.e.length ce,D PA q.p.length cp,H I q.bits,J s1,D A1 l1.length c1,D D1 m1.length e1,J s2,D A2 l2.length c2,D D2 m2.length e2,J s3,D A3 l3.length c3,D D3 m3.length e3,J s4,D A4 l4.length c4,D D4 m4.length e4,J s5,D A5 l5.length c5,D D5 m5.length e5,H I fi,H I mo,J sS,D AS nS cS,D DS mS dS,J sE,D AE nE cE,D DE mE dE,J sF,D AF nF cH,D DF mF dF,D YK nK cK,D ai s.tries.length ao,J aB,D X ay k1,D ab au aq,D an s.y.length cy,J W,D B2 L k2,D x K E]) (by kernel_rfl) (by exact⟨c,a.cy 43 3,a⟩) (λF=> ?_);generalize A.drew=B at*;refine aa 0 ?_;refine aa 1 ?_;refine aa 2 ?_;refine aa 3 ?_;refine aa (v:=af #[J s1,D A1 l1.length c1,D D1 m1.length e1,J s2,D A2 l2.length c2,D D2 m2.length e2,J s3,D A3 l3.length c3,D D3 m3.length e3,J s4,D A4 l4.length c4,D D4 m4.length e4,J s5,D A5 l5.length c5,D D5 m5.length e5,H I fi,H I mo]) 4 ?_ rfl (by rfl) (λw aI=>fY (off:=11) rfl rfl hh hi aI.2.2 rfl rfl);refine aa 5 ?_;refine aa 6 ?_;refine aa 7 ?_;refine aa 8 ?_
  repeat' first
   |refine aa 10 ?_
   |refine ak [9] ?_
   |refine av (i:=9) rfl (λaV aD=> ?_) ?_
   |exact bm
   |(have ar:=aD;clear aD
     (try clear F)
     go_simp;go_at_call 14
     with_reducible refine(uc hw.fr f (by omega)).mono ?_
     rintro e B ⟨rfl,aE⟩;revert b f hw c a j k l;refine b9 aE ?_;intro b f hw c a j k l
     replace aA:=b.free;replace o:=b.c4;clear aE;rw[y.out]
     try go_wp2_with fail
     refine ax ar (by exact⟨c,a.cy 43 3,a⟩) (λF=> ?_);clear ar aV)
   |refine aW (by decide +kernel) (aX ?_) _
   |fail
  all_goals try clear F
  cases C
  .have z:Y (Z.ho mo least s=Z.aG):=G (by rw[r.out];exact if_neg (of_decide_eq_false y.out));go_wp2_with fail;generalize g:ag (ag (ag (ag B _ _) _ _) _ _) _ _=aG at*;have d:=bp b g;clear g;replace hw:=hw.kw d.kw;replace f:=f.kw d.kw;replace a:=a.bs d;replace b:=d.new;replace c:=c.bs d;clear d;clear j k l;replace o:=b.c4;exact a4 (cl rfl rfl bM bN b rfl) rfl ⟨by rw[z.out];rfl,c⟩
  .have z:Y (Z.ho mo least s=((4,(s.tries.length:Int)+1,0,0):bv)):=G (by rw[r.out];exact if_pos (of_decide_eq_true y.out));go_wp2_with fail;generalize g:ag (ag (ag (ag B _ _) _ _) _ _) _ _=aG at*;have d:=bp b g;clear g;replace hw:=hw.kw d.kw;replace f:=f.kw d.kw;replace a:=a.bs d;replace b:=d.new;replace c:=c.bs d;clear d;clear j k l;replace o:=b.c4;exact a4 (cl rfl rfl bM bN b rfl) rfl ⟨by rw[z.out];rfl,c⟩
theorem CV (h:c0 w (D A l.length c) l)(i:l≠[]):∃b o,A=U ⟨b,o,none⟩/\ ∀j v,(l.map λx=>H I x)[j]? =U v->w.cell? ((⟨b,o,none⟩:am).add j)=U v:=by
 have f:0<l.length:=List.length_pos_iff.2 i;obtain⟨b,o,a,_⟩:=h.at_ f;refine⟨b,o,a,λj v e=> ?_⟩;rw[List.getElem?_map,Option.map_eq_some_iff]at e;obtain⟨x,m,rfl⟩:=e;obtain⟨k,n⟩:=List.getElem?_eq_some_iff.1 m;obtain⟨p,q,d,_,g⟩:=h.at_ k;rw[a]at d;cases d;rw[Addr.add_lit,g,n]
theorem ue:∀l:List Int,(l.map λx=>[H I x]).flatten=l.map λx=>H I x
 |[]=>rfl
 |a::l=>by simp[ue l]
theorem CX {ty:an}{base:Nat}(h:c0 w (D A l.length c) l)(k:l≠[])(N:l.length<=1000)(t:base<=w.heap.size):
 ∃i f e,(Builtin.append_ #[23,23] ty #[D (U ⟨g,0,none⟩) 0 0,D A l.length c]).run ae w= .ok (D (U ⟨i,0,none⟩) l.length f) e/\aP eX 1 3 base e (D (U ⟨i,0,none⟩) l.length f) l/\V w e:=by
 obtain⟨p,o,rfl,v⟩:=CV h k;obtain⟨J,y,G,C,u⟩:=info_parts mL;have M:0<l.length:=List.length_pos_iff.2 k;have m:=run_append_grow (P:=ae) w 23 ty 3 J _ underlying23 y G ⟨g,0,none⟩ 0 0 [] (by simp) (λK n z=>by simp at z) ⟨p,o,none⟩ l.length c _ (by rw[List.length_map,C];omega) v (by omega) (by omega) (growslice_fits (by omega) (by rw[u];omega));have x:=grownCap_ge w (0+l.length) 0 3;have B:=grownCap_le_maxLen w (0+l.length) 0 3 (by simp only[cm];omega);rw[Nat.zero_add]at m x B;generalize grownCap w l.length 0 3=d at*;refine⟨_,_,_,m,⟨l.map λa=>[H I a],⟨by simp,λK a r j s=> ?_⟩,λa E=> ?_,.inr ⟨w.heap.size,bA (d-l.length) [H I 0],?_,t,?_,λL F=> ?_,?_⟩⟩,(V.refl w).drew.alloc _⟩
 .rw[List.getElem?_map,s]at j;cases j;rfl
 .obtain⟨L,_,rfl⟩:=List.mem_map.1 E;exact⟨rfl,λn b=>by simp at b;subst b;exact⟨trivial,rfl⟩⟩
 .simp;omega
 .have q:(([]:List W).toArray++(l.map λa=>H I a).toArray++Builtin.zeroCells (H I 0).cells (d-l.length))=((l.map λa=>[H I a])++bA (d-l.length) [H I 0]).flatten.toArray:=by
   apply Array.toList_inj.1;rw[Array.toList_append,Array.toList_append,mq];simp[ue,Value.cells]
  rw[q];exact heap_alloc_new w.drew _
 .rw[(List.mem_replicate.1 F).2];exact⟨rfl,λn b=>by simp at b;subst b;exact⟨trivial,rfl⟩⟩
 .simp;omega
theorem CZ {ty:an}{w:O}{g c:Nat}{A:Option am}(d:Bx 3 w g []):(Builtin.append_ #[23,23] ty #[D (U ⟨g,0,none⟩) 0 0,D A 0 c]).run ae w= .ok (D (U ⟨g,0,none⟩) 0 0) w:=by
 obtain⟨b,e,o,n,m⟩:=info_parts mL;cases A with
 |some a=>
  have f:=run_append_room (P:=ae) w 23 ty 3 b underlying23 e g 0 0 #[] d a 0 c [] (by simp) (λp l j=>by simp at j) (λl k=>by simp at k) (by omega) (by simp);have i:((#[]:Array W).toList.take (0*b.size)++([]:List W)++(#[]:Array W).toList.drop (0*b.size+([]:List W).length)).toArray=#[]:=by simp
  rw[i,setRow_self w g #[] 3 (0,0) d]at f;exact f
 |none=>
  simp[Builtin.append_,run_underlying underlying23,ci,typeInfo,e,Builtin.lenOf,run_firstCells_none,storeCells]
def dM (w0 w:O)(v:W)(l:List Int):Prop:=aP eX 1 3 w0.heap.size w v l
theorem dM.up {w0 w ab:O}{v:W}{l:List Int}(h:dM w0 w v l)(u:V w ab):dM w0 ab v l:=aP.up (i4 _) h u
instance dM.bW {w0 w ab:O} {v:W} {l:List Int}:Lu (V w ab) (dM w0 w v l) (dM w0 ab v l):=bu λu h=>h.up u
theorem dM.ints (h:dM w0 w v l):c0 w v l:=aP.sn h
theorem dM.gr {row:Option Nat}(h:dM w0 w v l)(a:w.grownBy ab row)(b:v.ownBlock=none\/v.ownBlock≠row):dM w0 ab v l:=by
 obtain⟨e,ha,c⟩:=h;exact⟨e,ha.imp λx q d=>d,c.kept a b⟩
theorem dM.bs (h:dM w0 w v l)(b:Bs T g w ab old new)(a:3≠T:=by decide):dM w0 ab v l:=h.gr b.gr (kE h b.old a)
theorem C0 {K:a6->O->Prop}(s y:Operand)(q:o.op= .call {callee:= .builtin .append,args:=#[s,y],argTypes:=#[23,23]})(t:a.eval s=D (U ⟨g,0,none⟩) 0 0)(u:a.eval y=D A l.length c)(j:Bx 3 w g [])(hb:w0.heap.size<=g)(h:c0 w (D A l.length c) l)(p:l.length<=1000)
 (n:∀e d b,dM w0 b (D e l.length d) l->V w b->K (a.put o.dst (D e l.length d)) b):Oper.wp ae o a w K Q:=by
 have v:∃e d b,(Builtin.append_ #[23,23] o.type #[D (U ⟨g,0,none⟩) 0 0,D A l.length c]).run ae w= .ok (D e l.length d) b/\dM w0 b (D e l.length d) l/\V w b:=by
  by_cases k:l=[]
  .subst k;exact⟨_,_,_,CZ j,⟨[],An.nil _,by simp,.inr ⟨g,[],rfl,hb,j,by simp,by simp[cm]⟩⟩,V.refl w⟩
  .obtain⟨x,d,b,f,i,m⟩:=CX (ty:=o.type) (g:=g) h k p (base:=w0.heap.size) (by have:=j.lt;omega);exact⟨_,_,_,f,i,m⟩
 obtain⟨e,d,b,r,f,i⟩:=v;unfold Oper.wp execOp;simp only[q,resolve,invoke,builtin,Sem.run_bind,Sem.run_pure,Result.andThen_ok,List.map_toArray,List.map_cons,List.map_nil,t,u,r];exact n e d b f i
theorem uf (s:ByteArray)(c:Int)(w:O):aj ae 202 #[al s,H .u8 c] w λe a=>e=aw (H I (Lib.indexByte s.data.toList c.toNat.toUInt8))/\w=a:=by
 go_enter func202,ntmps202;go_wp2;rw[run_callFunc_extern func213 (by kernel_rfl) (by kernel_rfl) (by kernel_rfl) (e:=Extern.BytealgIndexByte.indexByte) (by kernel_rfl),Lib.run_indexByteString];simp only[Result.andThen];rw[Oper.upon_value];go_wp2;go_ret;exact⟨rfl,rfl⟩
theorem pI (s:ByteArray)(c:UInt8)(w:O):aj ae 181 #[al s,al ⟨#[c]⟩] w λe a=>e=aw (H I (Lib.indexByte s.data.toList c))/\w=a:=by
 go_enter func181,ntmps181;go_wp2_with(go_at_call 202;refine(uf _ _ _).mono ?_;rintro e a ⟨rfl,rfl⟩)
 .have b:([c]==s.toList)=true:=by assumption
  go_ret;refine⟨?_,rfl⟩;have e:s.data.toList=[c]:=by rw[<-Lib.toList_data];exact(beq_iff_eq.1 b).symm
  rw[e];simp[Lib.indexByte]
 .go_ret;exact⟨rfl,rfl⟩
theorem C1 {s a b:ByteArray}{c:UInt8}(f:Y (Lib.indexByte s.data.toList c=i))(g:Y (i<s.size/\s.size<=1000))(ha:Y (s.extract 0 i=a))(hb:Y (s.extract (i+1) s.size=b))(w:O):
 aj ae 155 #[al s,al ⟨#[c]⟩] w λe d=>e=aw (aY #[al a,al b,J true])/\V w d:=by
 have j:=g.out;have kw:IntKind.i64.wrap ((i:Int)+1)=(i:Int)+1:=IntWalk.i64_in _ (by omega);have k:(i:Int)+1<=s.size:=by omega
 have l:(i:Int)<=s.size:=by omega
 go_enter func155,ntmps155;go_wp2_with(go_at_call 181;refine(pI _ _ _).mono ?_;rintro e d ⟨rfl,rfl⟩;rw[f.out])
 go_region
 all_goals
  go_wp2
  go_ret3
  exact⟨by rw[<-ha.out,<-hb.out];rfl,(V.refl _).drew⟩
theorem pJ {s a b:ByteArray}{c:UInt8}(f:Y (Lib.indexByte s.data.toList c=i))(g:Y (i<s.size/\s.size<=1000))(ha:Y (s.extract 0 i=a))(hb:Y (s.extract (i+1) s.size=b))(w:O):
 aj ae 123 #[al s,al ⟨#[c]⟩] w λe d=>e=aw (aY #[al a,al b,J true])/\V w d:=by
 go_enter func123,ntmps123;go_wp2_with(go_at_call 155;refine(C1 f g ha hb _).mono ?_;rintro e d ⟨rfl,j⟩)
 go_ret3
 exact⟨rfl,j⟩
theorem C2 {s:ByteArray}{c:UInt8}(d:Y (Lib.indexByte s.data.toList c= -1))(w:O):
 aj ae 123 #[al s,al ⟨#[c]⟩] w λe a=>e=aw (aY #[al s,al ⟨#[]⟩,J false])/\w=a:=by
 have b:aj ae 155 #[al s,al ⟨#[c]⟩] w λe a=>e=aw (aY #[al s,al ⟨#[]⟩,J false])/\w=a:=by
  go_enter func155,ntmps155;go_wp2_with(go_at_call 181;refine(pI _ _ _).mono ?_;rintro e a ⟨rfl,rfl⟩;rw[d.out])
  go_ret3
  exact⟨rfl,rfl⟩
 go_enter func123,ntmps123;go_wp2_with(go_at_call 155;refine b.mono ?_;rintro e a ⟨rfl,rfl⟩)
 go_ret3
 exact⟨rfl,rfl⟩
def Dg (s:ByteArray)(d:Nat):Prop:=(s=⟨#[48]⟩/\d=0)\/(s=⟨#[49]⟩/\d=1)\/(s=⟨#[50]⟩/\d=2)
theorem C3 (s:ByteArray)(c:Int)(w:O):aj ae 238 #[al s,H .u8 c] w λe a=>e=aw (H I (Lib.indexByte s.data.toList c.toNat.toUInt8))/\w=a:=by
 go_enter func238,ntmps238;go_wp2_with(go_at_call 202;refine(uf _ _ _).mono ?_;rintro e a ⟨rfl,rfl⟩);go_ret;exact⟨rfl,rfl⟩
theorem pK (s:ByteArray)(c:UInt8)(w:O):aj ae 206 #[al s,al ⟨#[c]⟩] w λe a=>e=aw (H I (Lib.indexByte s.data.toList c))/\w=a:=by
 go_enter func206,ntmps206;go_wp2_with(go_at_call 181;refine(pI _ _ _).mono ?_;rintro e a ⟨rfl,rfl⟩);go_ret;exact⟨rfl,rfl⟩
theorem pL (s:ByteArray)(c:UInt8)(w:O):aj ae 182 #[al s,al ⟨#[c]⟩] w λe a=>e=aw (J (decide (0<=Lib.indexByte s.data.toList c)))/\w=a:=by
 go_enter func182,ntmps182;go_wp2_with(go_at_call 206;refine(pK _ _ _).mono ?_;rintro e a ⟨rfl,rfl⟩);go_ret;exact⟨rfl,rfl⟩
theorem ug (s:ByteArray)(c:UInt8)(w:O):aj ae 234 #[al s,al ⟨#[c]⟩] w λe a=>e=aw (H I (Lib.countByte s.data.toList c))/\w=a:=by
 go_enter func234,ntmps234;go_wp2;rw[run_callFunc_extern func245 (by kernel_rfl) (by kernel_rfl) (by kernel_rfl) (e:=Extern.BytealgCount.count) (by kernel_rfl),Lib.run_countString];simp only[Result.andThen];rw[Oper.upon_value];go_wp2;go_ret;exact⟨rfl,rfl⟩
theorem kI (c:Int)(a:0<=c/\c<128)(w:O):aj ae 226 #[al ⟨#[47,46]⟩,H .i32 c] w λe b=>e=aw (H I (Lib.indexByte [47,46] c.toNat.toUInt8))/\w=b:=by
 have d:=a.1;have f:=a.2;have g:IntKind.u8.wrap c=c:=by unfold IntKind.wrap;simp[IntKind.bits,IntKind.signed];omega
 go_enter func226,ntmps226;go_wp2_with(go_at_call 238;refine(C3 _ _ _).mono ?_;rintro e b ⟨rfl,rfl⟩);go_ret;exact⟨rfl,rfl⟩
theorem C4 {s:ByteArray}(h:Dg s d)(w:O):aj ae 215 #[al s,al ⟨#[47,46]⟩] w λe c=>e=aw (H I (-1))/\V w c:=by
 have f:Y (s=⟨#[48]⟩\/s=⟨#[49]⟩\/s=⟨#[50]⟩):=G (by rcases h with h|h|h<;>simp[h.1]);have g:s.size=1:=by rcases f.out with rfl|rfl|rfl<;>rfl
 clear h;go_enter func215,ntmps215;go_wp2;refine wp_loop_rounds 2 ?_;rcases f.out with rfl|rfl|rfl
 .skip;have b:∀a,(Instr.next (az (U ⟨w.heap.size,0,none⟩)) true a).run ae (w.iter ⟨#[48]⟩ 0)= .ok (aY #[J true,H I 0,H .i32 48]) (w.iter ⟨#[48]⟩ (0+1)):=λa=>run_next_any w ⟨#[48]⟩ 0 a (by decide)
  rw[a9];go_wp2_with(go_at_call 226;refine(kI 48 (by decide) _).mono ?_;rintro e c ⟨rfl,rfl⟩);clear b;have b:∀a,(Instr.next (az (U ⟨w.heap.size,0,none⟩)) true a).run ae (w.iter ⟨#[48]⟩ 1)=_:=λa=>run_next_end w ⟨#[48]⟩ 1 a (by decide)
  rw[a9];go_wp2;go_ret;exact⟨rfl,(V.refl w).alloc _⟩
 .skip;have b:∀a,(Instr.next (az (U ⟨w.heap.size,0,none⟩)) true a).run ae (w.iter ⟨#[49]⟩ 0)= .ok (aY #[J true,H I 0,H .i32 49]) (w.iter ⟨#[49]⟩ (0+1)):=λa=>run_next_any w ⟨#[49]⟩ 0 a (by decide)
  rw[a9];go_wp2_with(go_at_call 226;refine(kI 49 (by decide) _).mono ?_;rintro e c ⟨rfl,rfl⟩);clear b;have b:∀a,(Instr.next (az (U ⟨w.heap.size,0,none⟩)) true a).run ae (w.iter ⟨#[49]⟩ 1)=_:=λa=>run_next_end w ⟨#[49]⟩ 1 a (by decide)
  rw[a9];go_wp2;go_ret;exact⟨rfl,(V.refl w).alloc _⟩
 .skip;have b:∀a,(Instr.next (az (U ⟨w.heap.size,0,none⟩)) true a).run ae (w.iter ⟨#[50]⟩ 0)= .ok (aY #[J true,H I 0,H .i32 50]) (w.iter ⟨#[50]⟩ (0+1)):=λa=>run_next_any w ⟨#[50]⟩ 0 a (by decide)
  rw[a9];go_wp2_with(go_at_call 226;refine(kI 50 (by decide) _).mono ?_;rintro e c ⟨rfl,rfl⟩);clear b;have b:∀a,(Instr.next (az (U ⟨w.heap.size,0,none⟩)) true a).run ae (w.iter ⟨#[50]⟩ 1)=_:=λa=>run_next_end w ⟨#[50]⟩ 1 a (by decide)
  rw[a9];go_wp2;go_ret;exact⟨rfl,(V.refl w).alloc _⟩
theorem C5 (w:O):aj ae 215 #[al ⟨#[49,47,50]⟩,al ⟨#[47,46]⟩] w λe c=>e=aw (H I 1)/\V w c:=by
 go_enter func215,ntmps215;go_wp2;refine wp_loop_rounds 2 ?_;have b:∀a,(Instr.next (az (U ⟨w.heap.size,0,none⟩)) true a).run ae (w.iter ⟨#[49,47,50]⟩ 0)= .ok (aY #[J true,H I 0,H .i32 49]) (w.iter ⟨#[49,47,50]⟩ (0+1)):=λa=>run_next_any w ⟨#[49,47,50]⟩ 0 a (by decide)
 rw[a9];go_wp2_with(go_at_call 226;refine(kI 49 (by decide) _).mono ?_;rintro e c ⟨rfl,rfl⟩);clear b;have b:∀a,(Instr.next (az (U ⟨w.heap.size,0,none⟩)) true a).run ae (w.iter ⟨#[49,47,50]⟩ 1)= .ok (aY #[J true,H I 1,H .i32 47]) (w.iter ⟨#[49,47,50]⟩ (1+1)):=λa=>run_next_any w ⟨#[49,47,50]⟩ 1 a (by decide)
 rw[a9];go_wp2_with(go_at_call 226;refine(kI 47 (by decide) _).mono ?_;rintro e c ⟨rfl,rfl⟩);clear b;go_ret;exact⟨rfl,(V.refl w).alloc _⟩
theorem C6 {s:ByteArray}(h:Dg s d)(w:O):aj ae 240 #[al s] w λe a=>e=aw (H I (-1))/\w=a:=by
 rcases h with⟨rfl,rfl⟩|⟨rfl,rfl⟩|⟨rfl,rfl⟩<;>
 .go_enter func240,ntmps240;go_wp2;refine wp_loop_rounds 2 ?_;rw[a9];go_wp2;rw[a9];go_wp2;go_ret;exact⟨rfl,rfl⟩
def uh (d:Nat)(w:O)(e:aO)(b:O):Prop:= ∃a,e=aw (aY #[a,af #[H I 0,H I 0,H I 0,H I 0]])/\Ws b a (E.words d)/\V w b
theorem ui {s:ByteArray}(h:Dg s d)(w:O):aj ae 230 #[al s] w (uh d w):=by
 have v:=G h;obtain⟨u,x⟩:∃u:Int,Y (u=(d:Int)):=⟨_,G rfl⟩;have l:Y (d<E.B):=G (by rw[E.bL];rcases h with h|h|h<;>rw[h.2]<;>decide);have m:Y (10*E.val []+d=d):=G (by simp[E.val]);have n:Y (10<E.B):=G (by rw[E.bL];decide);go_enter func230,ntmps230;go_wp2_with fail;generalize f:ah w _=o at*;obtain⟨b,a⟩:=aC f;clear f;have g:=a.c4;have q:=a.free;refine(C6 v.out _).mono ?_;rintro p y ⟨rfl,rfl⟩;rcases h with⟨rfl,rfl⟩|⟨rfl,rfl⟩|⟨rfl,rfl⟩
 .skip;go_wp2;refine wp_loop_rounds 2 ?_;rw[a9];go_wp2;refine wp_loop_rounds 2 ?_;rw[a9];go_wp2;rw[a9];go_wp2_with fail;generalize k:((_:Int)-48)%256=j;obtain rfl:((0:Nat):Int)=j:=k
  with_reducible refine(ow (xi:=10) 10 0 rfl rfl n.out l.out (Ws.nil o) (by decide)).mono ?_
  rintro p i ⟨r,rfl,e,u1⟩;revert b a g;refine bo u1 ?_;intro b a g
  replace q:=a.free;clear u1;rw[m.out]at e;go_wp2;rw[a9];go_wp2;generalize f:ag (ag (ag (ag i _ _) _ _) _ _) _ _=t at*;have c:=bp a f;clear f;replace e:=e.kw c.kw;replace a:=c.new;replace b:=b.bs c;clear c;replace g:=a.c4;exact a4 (fl rfl rfl bM bN a rfl) rfl ⟨_,rfl,e,b⟩
 .skip;go_wp2;refine wp_loop_rounds 2 ?_;rw[a9];go_wp2;refine wp_loop_rounds 2 ?_;rw[a9];go_wp2;rw[a9];go_wp2_with fail;generalize k:((_:Int)-48)%256=j;obtain rfl:((1:Nat):Int)=j:=k
  with_reducible refine(ow (xi:=10) 10 1 rfl rfl n.out l.out (Ws.nil o) (by decide)).mono ?_
  rintro p i ⟨r,rfl,e,u1⟩;revert b a g;refine bo u1 ?_;intro b a g
  replace q:=a.free;clear u1;rw[m.out]at e;go_wp2;rw[a9];go_wp2;generalize f:ag (ag (ag (ag i _ _) _ _) _ _) _ _=t at*;have c:=bp a f;clear f;replace e:=e.kw c.kw;replace a:=c.new;replace b:=b.bs c;clear c;replace g:=a.c4;exact a4 (fl rfl rfl bM bN a rfl) rfl ⟨_,rfl,e,b⟩
 .skip;go_wp2;refine wp_loop_rounds 2 ?_;rw[a9];go_wp2;refine wp_loop_rounds 2 ?_;rw[a9];go_wp2;rw[a9];go_wp2_with fail;generalize k:((_:Int)-48)%256=j;obtain rfl:((2:Nat):Int)=j:=k
  with_reducible refine(ow (xi:=10) 10 2 rfl rfl n.out l.out (Ws.nil o) (by decide)).mono ?_
  rintro p i ⟨r,rfl,e,u1⟩;revert b a g;refine bo u1 ?_;intro b a g
  replace q:=a.free;clear u1;rw[m.out]at e;go_wp2;rw[a9];go_wp2;generalize f:ag (ag (ag (ag i _ _) _ _) _ _) _ _=t at*;have c:=bp a f;clear f;replace e:=e.kw c.kw;replace a:=c.new;replace b:=b.bs c;clear c;replace g:=a.c4;exact a4 (fl rfl rfl bM bN a rfl) rfl ⟨_,rfl,e,b⟩
theorem C7:Dg (ByteArray.extract ⟨#[49,47,50]⟩ 2 3) 2:=Or.inr (Or.inr ⟨by decide +kernel,rfl⟩)
theorem C8:Dg (ByteArray.extract ⟨#[49,47,50]⟩ 0 1) 1:=Or.inr (Or.inl ⟨by decide +kernel,rfl⟩)
theorem C9 (w:O):aj ae 231 #[al ⟨#[49,47,50]⟩,H I 2] w (uh 2 w):=by
 go_enter func231,ntmps231;go_wp2_with fail;generalize c:ah w _=m at*;obtain⟨b,a⟩:=aC c;clear c;have d:=a.c4;have l:=a.free;go_wp2_with fail
 with_reducible refine(ui C7 m).mono ?_
 rintro t n ⟨r,rfl,e,u1⟩;revert b a d;refine bo u1 ?_;intro b a d;replace l:=a.free;clear u1;have p:=a.d4;have q:=a.fa;go_wp2_with fail;clear p q;generalize c:ah n _=o at*;obtain⟨k,f⟩:=aC c;clear c;have u:=a.lt;revert e b a d;refine bf k ?_;intro e b a d;replace l:=a.free;clear k;have i:=f.c4
 go_region
 generalize c:ag (ag (ag (ag o _ _) _ _) _ _) _ _=j at*;have g:=bp a c;clear c;replace e:=e.kw g.kw;replace f:=f.bs g;replace a:=g.new;replace b:=b.bs g;clear g;replace d:=a.c4;replace i:=f.c4;revert e f a b d i;refine bO (V.refl j).drew ?_;intro e f a b d i;generalize j.drew=s at*;go_wp2;exact a4 (fl rfl rfl bM bN a rfl) rfl ⟨_,rfl,e,b⟩
def Da (z:Int)(w:O)(e:aO)(b:O):Prop:= ∃a,e=aw (aY #[a,af #[H I 0,H I 0,H I 0,H I 0]])/\Zw b a z/\V w b
theorem Db {s:ByteArray}(h:Dg s d)(w:O):aj ae 185 #[al s,al ⟨#[45]⟩] w λe a=>e=aw (aY #[al s,J false])/\w=a:=by
 have b:((s.extract 0 1).toList==[45])=false:=by rcases h with⟨rfl,rfl⟩|⟨rfl,rfl⟩|⟨rfl,rfl⟩<;>decide +kernel
 have c:s.size=1:=by rcases h with⟨rfl,rfl⟩|⟨rfl,rfl⟩|⟨rfl,rfl⟩<;>rfl
 go_enter func185,ntmps185;go_wp2
 go_ret2
 exact⟨rfl,rfl⟩
theorem ng {fn:Func}{tmps:Array W}{t t':Tmp}{dw iU:an}{bI gP:Nat}{e9:List W}(o:fn.results=#[.cell t T,.cell t' dw])(p:tmps.getD t undef=az (U ⟨g,0,none⟩))(q:tmps.getD t' undef=az (U ⟨bI,0,none⟩))
 (i:∀w:O,(ct T).run ae w= .ok true w)(e:∀w:O,(ci T).run ae w= .ok n w)(j:∀w:O,(ct dw).run ae w= .ok true w)(f:∀w:O,(ci dw).run ae w= .ok gP w)(hb:Bx S w g cs)(l:cs.length=n)(k:Bx iU w bI e9)(m:e9.length=gP):
 (results fn tmps).run ae w= .ok (aY #[af cs.toArray,af e9.toArray]) w:=by
 have c:=gO i e hb l;have d:=gO j f k m;have a:tmps[t]?.getD undef=az (U ⟨g,0,none⟩):=by simpa using p
 have b:tmps[t']?.getD undef=az (U ⟨bI,0,none⟩):=by simpa using q
 simp[results,o,a,b,c,d,asAddr]
theorem uj {s:ByteArray}(h:Dg s d)(w:O):aj ae 216 #[al s] w (Da d w):=by
 have u:Y (d<4294967296):=G (by rcases h with h|h|h<;>rw[h.2]<;>decide);obtain⟨p,q⟩:∃p,Y (E.iv false d=p):=⟨_,G rfl⟩;have v:Y ((d:Int)=p):=G (by rw[<-q.out];rfl);go_enter func216,ntmps216;go_wp2_with fail;generalize f:ah (ah w _) _=x at*;obtain⟨e,b,a⟩:=br f;clear f;have k:=b.c2;have o:=b.free;have l:=a.c4;have m:=a.free;refine(Db h _).mono ?_;rintro r S ⟨rfl,rfl⟩;go_wp2_with fail
 with_reducible refine(ui h x).mono ?_
 rintro r y ⟨I,rfl,i,u1⟩;revert e b a k;refine bf u1 ?_;intro e b a k;replace o:=b.free;replace l:=a.c4;replace m:=a.free;clear u1;have B:=b.d2;have C:=b.fa;have D:=a.d4;have F:=a.fa;go_wp2_with fail;clear B C D F;generalize f:ah y _=K at*;obtain⟨t,g⟩:=aC f;clear f;have Q:=b.lt;have R:=a.lt;revert i e b a k;refine b8 t ?_;intro i e b a k;replace o:=b.free;replace l:=a.c4;replace m:=a.free;clear t;have n:=g.c4
 with_reducible refine(fb i (aQ (gM u.out) (by omega))).mono ?_
 rintro r z ⟨J,rfl,j,u3⟩;revert g i e b a k;refine bO u3 ?_;intro g i e b a k;replace o:=b.free;replace l:=a.c4;replace m:=a.free;replace n:=g.c4;clear u3;rw[q.out]at j;obtain⟨M,rfl,j⟩:=j;obtain⟨H,P,N,rfl⟩:=j.shape;go_wp2;generalize f:ag (ag z _ _) _ _=A at*;have c:=dp b f;clear f;replace i:=i.kw c.kw;replace j:=j.kw c.kw;replace a:=a.bs c;replace g:=g.bs c;replace b:=c.new;replace e:=e.bs c;clear c;replace k:=b.c2;replace l:=a.c4;replace m:=a.free;replace n:=g.c4;generalize f:ag (ag (ag (ag A _ _) _ _) _ _) _ _=L at*;have c:=bp a f;clear f;replace i:=i.kw c.kw;replace j:=j.kw c.kw;replace b:=b.bs c;replace g:=g.bs c;replace a:=c.new;replace e:=e.bs c;clear c;replace k:=b.c2;replace l:=a.c4;replace n:=g.c4;exact a4 (ng rfl rfl rfl hz hA bM bN b rfl a rfl) rfl ⟨_,rfl,by rw[v.out];exact⟨_,rfl,j⟩,e⟩
end Go.Proofs.YtjopfpegcckllaaGreatDoor
