/- A part of TopStops's proof: Pace4 Pace9 Pace8. -/
import Derived.Deep.Fields
import Derived.Deep.DeepCutAuto
import Derived.Laws.Tables
import Derived.Laws.Rows
import Derived.Test.YtjopfpegcckllaaGreatDoorZqAg
set_option linter.all false
set_option maxRecDepth 100000
set_option maxHeartbeats 12800000
open Go.Proofs.Tryz
open Go renaming Oper→bt,Act→a6,World→O,Value→W,Calls→aj,Addr→am,maxLen→cm,TypeId→an,Ending→aO,sizeOf→ci,isAgg→ct,bodyPost_ret→a4,wp_region_noPanic→aZ,wp_region_held_drew→a3,wpAnyH_done→aW
open Go.Act renaming put→bg
open Go.AllReadyH renaming cons→av,nil→bm
open Go.Ending renaming returned→aw
open Go.IntKind renaming i64→I
open Go.Lib renaming hid→G
open Go.NoPanic renaming normal→aX
open Go.Obj renaming cells→ao
open Go.Proofs.Tryz renaming prog→ae
open Go.RowKit renaming Hid→Y
open Go.Value renaming int→H,bool→J,slice→D,agg→af,pointer→az
open Go.World renaming setCell→ag,alloc→ah
open List renaming getElem_mem→cq,getElem?_eq_getElem→aT
open Nat renaming le_trans→aQ,zero_le→bn
open Option renaming some→U
variable {α:Type}{g s s1 s2 s3 s4 s5:Bool}{K fi mo:Int}{l l1 l2 l3 l4 l5 m m1 m2 m3 m4 m5:List Nat}{cs old:List W}{c c1 c2 c3 c4 c5 d e1 e2 e3 e4 e5 k:Nat}{w:O}{A A1 A2 A3 A4 A5 D1 D2 D3 D4 D5 ai:Option am}{cZ e high low q1 q2 q3 q4 q5 safe t x:Rat}{u v:W}{T:an}
namespace Pc
theorem w1 (a:g=false):de g q1 q2 q3 q4 q5 fi mo=1:=if_pos a
theorem w2 (a:g=true)(h1:q1<0):de g q1 q2 q3 q4 q5 fi mo=2:=by unfold de;rw[if_neg (by simp[a]),if_pos h1]
theorem w3 (a:g=true)(h1:¬q1<0)(h2:¬(0<q2)\/1<q2):de g q1 q2 q3 q4 q5 fi mo=3:=by unfold de;rw[if_neg (by simp[a]),if_neg h1,if_pos h2]
theorem w4 (b:g=true)(h1:¬q1<0)(h2:¬(¬(0<q2)\/1<q2))(a:¬(0<q3)\/1<=q3):de g q1 q2 q3 q4 q5 fi mo=4:=by unfold de;rw[if_neg (by simp[b]),if_neg h1,if_neg h2,if_pos a]
theorem w5 (c:g=true)(h1:¬q1<0)(h2:¬(¬(0<q2)\/1<q2))(a:¬(¬(0<q3)\/1<=q3))(b:q4<1):de g q1 q2 q3 q4 q5 fi mo=5:=by unfold de;rw[if_neg (by simp[c]),if_neg h1,if_neg h2,if_neg a,if_pos b]
theorem w6 (d:g=true)(h1:¬q1<0)(h2:¬(¬(0<q2)\/1<q2))(a:¬(¬(0<q3)\/1<=q3))(b:¬q4<1)(c:¬0<q5):de g q1 q2 q3 q4 q5 fi mo=6:=by unfold de;rw[if_neg (by simp[d]),if_neg h1,if_neg h2,if_neg a,if_neg b,if_pos c]
theorem w7 (d:g=true)(h1:¬q1<0)(h2:¬(¬(0<q2)\/1<q2))(a:¬(¬(0<q3)\/1<=q3))(b:¬q4<1)(c:0<q5):de g q1 q2 q3 q4 q5 fi mo=(if fi<1\/1024<fi then 7 else if mo<1\/200<mo then 8 else 0):=by unfold de;rw[if_neg (by simp[d]),if_neg h1,if_neg h2,if_neg a,if_neg b,if_neg (by simpa using c)]
end Pc
namespace Go.Proofs.YtjopfpegcckllaaGreatDoor
open Go.RowKit
theorem CJ {P:O->W->α->Prop}(j:Kp P){g:Nat}{xs:List F3}{qs:List α}(hb:Bx T w g (aS xs))(ha:Al (λx q=>P w x.agg q) xs qs)(k:qs.length<=1000000):Sq P w (D (U ⟨g,0,none⟩) qs.length qs.length) qs:=by
 have e:∀x∈xs,x.ok:=λx f=>by
  obtain⟨b,a⟩:=List.getElem?_of_mem f;have d:b<qs.length:=by rw[<-ha.1];exact(List.getElem?_eq_some_iff.1 a).1
  obtain⟨l,c,i⟩:=j.form (ha.2 b x _ a (aT d));rw[F3.nI c];exact i
 have:aA P T 0 w (D (U ⟨g,0,none⟩) xs.length xs.length) qs:=⟨xs,ha,e,.inr ⟨g,[],rfl,bn _,by rw[List.append_nil];exact hb,by simp,by rw[ha.1];simp[cm];omega⟩⟩;rw[ha.1]at this;exact this.sq
theorem na {R:F3->α->Prop}{x:F3}{q:α}{xs:List F3}{qs:List α}(h:R x q)(k:Al R xs qs):Al R (x::xs) (q::qs):=(Al.one h).append k
theorem CK {g:Nat}(hb:Bx 53 w g [J s1,D A1 l1.length c1,D D1 m1.length e1,J s2,D A2 l2.length c2,D D2 m2.length e2,J s3,D A3 l3.length c3,D D3 m3.length e3,J s4,D A4 l4.length c4,D D4 m4.length e4,J s5,D A5 l5.length c5,D D5 m5.length e5])(a:Ws w (D A1 l1.length c1) l1)(f:Ws w (D D1 m1.length e1) m1)(b:Ws w (D A2 l2.length c2) l2)(i:Ws w (D D2 m2.length e2) m2)(c:Ws w (D A3 l3.length c3) l3)(j:Ws w (D D3 m3.length e3) m3)(d:Ws w (D A4 l4.length c4) l4)(k:Ws w (D D4 m4.length e4) m4)(e:Ws w (D A5 l5.length c5) l5)(l:Ws w (D D5 m5.length e5) m5):Sq Rw w (D (U ⟨g,0,none⟩) 5 5) [(s1,l1,m1),(s2,l2,m2),(s3,l3,m3),(s4,l4,m4),(s5,l5,m5)]:=
 CJ cG (T:=53) (xs:=[⟨s1,D A1 l1.length c1,D D1 m1.length e1⟩,⟨s2,D A2 l2.length c2,D D2 m2.length e2⟩,⟨s3,D A3 l3.length c3,D D3 m3.length e3⟩,⟨s4,D A4 l4.length c4,D D4 m4.length e4⟩,⟨s5,D A5 l5.length c5,D D5 m5.length e5⟩]) hb
  (na ⟨_,_,rfl,a,f⟩ (na ⟨_,_,rfl,b,i⟩ (na ⟨_,_,rfl,c,j⟩ (na ⟨_,_,rfl,d,k⟩ (Al.one ⟨_,_,rfl,e,l⟩))))) (by simp)
theorem eN {d:W}{q:Rat}(h:Ws w u (E.words q.num.natAbs))(k:Ws w d (E.words q.den)):Qw w (af #[J (E.aB q.num),u,d]) q:=⟨_,_,rfl,h,k⟩
theorem kH (b:Ws w (D A l.length c) l)(e:Ws w (D ai m.length d) m)(a:l.length<=1000/\m.length<=1000):Fr w (af #[J s,D A l.length c,D ai m.length d]) (mkRat (E.iv s (E.val l)) (E.val m)) 1000:=⟨s,_,_,l,m,rfl,b,e,rfl,a.1,a.2,by omega⟩
theorem CL (t:Ws w (D A1 l1.length c1) l1)(z:Ws w (D D1 m1.length e1) m1)(u:Ws w (D A2 l2.length c2) l2)(A:Ws w (D D2 m2.length e2) m2)(v:Ws w (D A3 l3.length c3) l3)(B:Ws w (D D3 m3.length e3) m3)(x:Ws w (D A4 l4.length c4) l4)(C:Ws w (D D4 m4.length e4) m4)(y:Ws w (D A5 l5.length c5) l5)(F:Ws w (D D5 m5.length e5) m5)(az:l1.length<=1000/\m1.length<=1000)(aA:l2.length<=1000/\m2.length<=1000)(aB:l3.length<=1000/\m3.length<=1000)(aD:l4.length<=1000/\m4.length<=1000)(aE:l5.length<=1000/\m5.length<=1000)(bz: -9223372036854775808<=fi/\fi<=9223372036854775807)(bA: -9223372036854775808<=mo/\mo<=9223372036854775807):
 aj ae 64 #[af #[J s1,D A1 l1.length c1,D D1 m1.length e1,J s2,D A2 l2.length c2,D D2 m2.length e2,J s3,D A3 l3.length c3,D D3 m3.length e3,J s4,D A4 l4.length c4,D D4 m4.length e4,J s5,D A5 l5.length c5,D D5 m5.length e5,H I fi,H I mo]] w (iV (Pc.de (List.all [(s1,l1,m1),(s2,l2,m2),(s3,l3,m3),(s4,l4,m4),(s5,l5,m5)] bV) (mkRat (E.iv s1 (E.val l1)) (E.val m1)) (mkRat (E.iv s2 (E.val l2)) (E.val m2)) (mkRat (E.iv s3 (E.val l3)) (E.val m3)) (mkRat (E.iv s4 (E.val l4)) (E.val m4)) (mkRat (E.iv s5 (E.val l5)) (E.val m5)) fi mo) w):=by
 have d:=kH (s:=s1) t z az;have c:=kH (s:=s2) u A aA;have F3:=kH (s:=s3) v B aB;have e:=kH (s:=s4) x C aD;have f:=kH (s:=s5) y F aE
 have aU:Y (∀r∈([(s1,l1,m1),(s2,l2,m2),(s3,l3,m3),(s4,l4,m4),(s5,l5,m5)]:List ay),r.bd 1000):=G (by
  intro r aO;simp only[List.mem_cons,List.not_mem_nil,or_false]at aO;rcases aO with rfl|rfl|rfl|rfl|rfl
  .exact az
  .exact aA
  .exact aB
  .exact aD
  .exact aE)
 obtain⟨g,aJ⟩:∃g,Y (List.all ([(s1,l1,m1),(s2,l2,m2),(s3,l3,m3),(s4,l4,m4),(s5,l5,m5)]:List ay) bV=g):=⟨_,G rfl⟩;rw[aJ.out];generalize(mkRat (E.iv s1 (E.val l1)) (E.val m1))=q1 at*;generalize(mkRat (E.iv s2 (E.val l2)) (E.val m2))=M at*;generalize(mkRat (E.iv s3 (E.val l3)) (E.val m3))=N at*;generalize(mkRat (E.iv s4 (E.val l4)) (E.val m4))=aF at*;generalize(mkRat (E.iv s5 (E.val l5)) (E.val m5))=a9 at*;clear az aA aB aD aE;go_enter func64,ntmps64;go_wp2_with fail;generalize al:ah w _=bg at*;obtain⟨a,b⟩:=aC al;clear al;revert t z u A v B x C y F d c;refine au a ?_;intro t z u A v B x C y F d c;revert F3 e f;refine bo a ?_;intro F3 e f;have j:=b.dg;go_wp2_with fail
 with_reducible refine(fd (n:=1) (by omega) _).mono ?_
 rintro R aZ ⟨bf,rfl,o,u1⟩;revert t z u A v B x C y F d c;refine au u1 ?_;intro t z u A v B x C y F d c;revert a b F3 e f j;revert u1;refine dX ?_;intro a b F3 e f j;obtain⟨Q,av⟩:∃aY,Y (((1:Int):Rat)=aY):=⟨_,G rfl⟩;have ax:E.Lq Q 2:=by rw[<-av.out];exact dR (by omega)
 have T:Y ((1:Rat)=Q):=G (by rw[<-av.out];rfl);rw[av.out]at o;obtain⟨bs,bt,rfl,o,i⟩:=o;obtain⟨bb,no,bw,rfl⟩:=o.shape;obtain⟨bd,bB,bx,rfl⟩:=i.shape;have a1:=b.d17;have a2:=λaW aX=>(b.up (((V.refl _).alloc aW).alloc aX)).dg
 go_wp2_with fail;clear a1 a2;generalize al:ah (ah aZ _) _=bi at*;obtain⟨aP,l,k⟩:=br al;clear al;have bv:=b.lt;have bu:=b.lt;revert t z u A v B x C y F d c;refine au aP ?_;intro t z u A v B x C y F d c;revert a b F3 e f j o i;revert aP;refine el ?_;intro a b F3 e f j o i;have p:=l.c3;have m:=k.lu
 with_reducible refine(BP (CK k t z u A v B x C y F) (by simp) aU).mono ?_
 rintro R bj ⟨rfl,u3⟩;revert t z u A v B x C y F d c;refine au u3 ?_;intro t z u A v B x C y F d c;revert l k a b F3 e f j o i p m;revert u3;refine iI ?_;intro l k a b F3 e f j o i p m;rw[aJ.out];cases g
 .skip;go_wp2;go_ret;exact⟨by rw[Pc.w1 rfl];rfl,a⟩
 clear t z u A v B x C y F;obtain⟨ba,aK⟩:∃S,Y (E.bU q1.num=S):=⟨_,G rfl⟩;have an:=G (decide_eq_decide.1 (Pc.s9 q1));rw[aK.out]at an;go_wp2_with fail
 with_reducible refine(fQ d (by omega)).mono ?_
 rintro R bk ⟨rfl,u4⟩;revert d c l k a b F3 e f j o i;refine au u4 ?_;intro d c l k a b F3 e f j o i;revert p m;revert u4;refine gw ?_;intro p m;rw[aK.out]
 by_cases U:q1<0
 .have k1:=an.out.2 U;have K:=G U;clear U;go_wp2;go_ret;exact⟨by rw[Pc.w2 rfl K.out];rfl,a⟩
 have k1:¬ba<0:=λq=>U (an.out.1 q)
 have K:=G U;clear U;go_wp2_with fail
 with_reducible refine(pn c (by omega)).mono ?_
 rintro R bl ⟨rfl,u5⟩;revert d c l k a b F3 e f j o i;refine au u5 ?_;intro d c l k a b F3 e f j o i;revert p m;revert u5;refine gw ?_;intro p m
 by_cases X:0<M
 rotate_left
 .rw[decide_eq_false X];have L:Y (¬(0<M)\/1<M):=G (.inl X);clear X;go_wp2;go_ret;exact⟨by rw[Pc.w3 rfl K.out L.out];rfl,a⟩
 rw[decide_eq_true X];have aH:=G X;clear X;obtain⟨aQ,aL⟩:∃S,Y (E.cI M Q=S):=⟨_,G rfl⟩;have ao:=G (E.iP M Q);rw[aL.out]at ao;go_wp2_with fail
 with_reducible refine(f9 c ((eN o i).fr ax) (by omega) (by omega)).mono ?_
 rintro R bm ⟨rfl,u6⟩;revert d c l k a b F3 e f j o i;refine au u6 ?_;intro d c l k a b F3 e f j o i;revert p m;revert u6;refine gw ?_;intro p m;rw[aL.out]
 by_cases W:1<M
 .have k2:aQ>0:=ao.out.2 (by rw[<-T.out];exact W);have L:Y (¬(0<M)\/1<M):=G (.inr W);clear W;go_wp2;go_ret;exact⟨by rw[Pc.w3 rfl K.out L.out];rfl,a⟩
 have k2:¬(aQ>0):=λq=>W (by have:=ao.out.1 q;rwa [<-T.out]at this)
 have L:Y (¬(¬(0<M)\/1<M)):=G (λq=>q.elim (λaG=>aG aH.out) W);clear W;go_wp2_with fail
 with_reducible refine(pn F3 (by omega)).mono ?_
 rintro R bn ⟨rfl,u7⟩;revert d c l k a b F3 e f j o i;refine au u7 ?_;intro d c l k a b F3 e f j o i;revert p m;revert u7;refine gw ?_;intro p m
 by_cases aa:0<N
 rotate_left
 .rw[decide_eq_false aa];have P:Y (¬(0<N)\/1<=N):=G (.inl aa);clear aa;go_wp2;go_ret;exact⟨by rw[Pc.w4 rfl K.out L.out P.out];rfl,a⟩
 rw[decide_eq_true aa];have aI:=G aa;clear aa;obtain⟨aR,aM⟩:∃S,Y (E.cI N Q=S):=⟨_,G rfl⟩;have aq:=G (E.lO N Q);rw[aM.out]at aq;go_wp2_with fail
 with_reducible refine(f9 F3 ((eN o i).fr ax) (by omega) (by omega)).mono ?_
 rintro R bp ⟨rfl,u8⟩;revert d c l k a b F3 e f j o i;refine au u8 ?_;intro d c l k a b F3 e f j o i;revert p m;revert u8;refine gw ?_;intro p m;rw[aM.out]
 by_cases Z:1<=N
 .have a7:0<=aR:=aq.out.2 (by rw[<-T.out];exact Z);have P:Y (¬(0<N)\/1<=N):=G (.inr Z);clear Z;go_wp2;go_ret;exact⟨by rw[Pc.w4 rfl K.out L.out P.out];rfl,a⟩
 have a7:¬(0<=aR):=λq=>Z (by have:=aq.out.1 q;rwa [<-T.out]at this)
 have P:Y (¬(¬(0<N)\/1<=N)):=G (λq=>q.elim (λaG=>aG aI.out) Z);clear Z;obtain⟨aS,aN⟩:∃S,Y (E.cI aF Q=S):=⟨_,G rfl⟩;have ar:=G (Pc.lt_iff aF Q);rw[aN.out]at ar;go_wp2_with fail
 with_reducible refine(f9 e ((eN o i).fr ax) (by omega) (by omega)).mono ?_
 rintro R bq ⟨rfl,u9⟩;revert d c l k a b F3 e f j o i;refine au u9 ?_;intro d c l k a b F3 e f j o i;revert p m;revert u9;refine gw ?_;intro p m;rw[aN.out]
 by_cases ab:aF<1
 .have a8:aS<0:=ar.out.2 (by rw[<-T.out];exact ab);have ai:=G ab;clear ab;go_wp2;go_ret;exact⟨by rw[Pc.w5 rfl K.out L.out P.out ai.out];rfl,a⟩
 have a8:¬(aS<0):=λq=>ab (by have:=ar.out.1 q;rwa [<-T.out]at this)
 have ai:=G ab;clear ab;go_wp2_with fail
 with_reducible refine(pn f (by omega)).mono ?_
 rintro R bh ⟨rfl,u10⟩;revert d c l k a b F3 e f j o i;refine au u10 ?_;intro d c l k a b F3 e f j o i;revert p m;revert u10;refine gw ?_;intro p m
 by_cases ag:0<a9
 rotate_left
 .rw[decide_eq_false ag];have aT:=G ag;clear ag;go_wp2;go_ret;exact⟨by rw[Pc.w6 rfl K.out L.out P.out ai.out aT.out];rfl,a⟩
 rw[decide_eq_true ag];have ak:=G (Pc.w7 (g:=true) (fi:=fi) (mo:=mo) rfl K.out L.out P.out ai.out ag);clear ag an ao aq ar K L P ai aH aI
 by_cases a3:fi<1
 .skip;go_wp2;go_ret;exact⟨by rw[ak.out,if_pos (Or.inl a3)];rfl,a⟩
 by_cases a4:1024<fi
 .skip;go_wp2;go_ret;exact⟨by rw[ak.out,if_pos (Or.inr a4)];rfl,a⟩
 have aw:Y ((if fi<1\/1024<fi then(7:Int)else if mo<1\/200<mo then 8 else 0)=if mo<1\/200<mo then 8 else 0):=G (if_neg (by omega))
 by_cases a5:mo<1
 .skip;go_wp2;go_ret;exact⟨by rw[ak.out,aw.out,if_pos (Or.inl a5)];rfl,a⟩
 by_cases a6:200<mo
 .skip;go_wp2;go_ret;exact⟨by rw[ak.out,aw.out,if_pos (Or.inr a6)];rfl,a⟩
 have aV:Y ((if mo<1\/200<mo then(8:Int)else 0)=0):=G (if_neg (by omega));go_wp2;go_ret;exact⟨by rw[ak.out,aw.out,aV.out];rfl,a⟩
theorem CM (a:Ws w (D A1 l1.length c1) l1)(g:Ws w (D D1 m1.length e1) m1)(b:Ws w (D A2 l2.length c2) l2)(i:Ws w (D D2 m2.length e2) m2)(c:Ws w (D A3 l3.length c3) l3)(j:Ws w (D D3 m3.length e3) m3)(d:Ws w (D A4 l4.length c4) l4)(k:Ws w (D D4 m4.length e4) m4)(f:Ws w (D A5 l5.length c5) l5)(l:Ws w (D D5 m5.length e5) m5)(s:l1.length<=1000/\m1.length<=1000)(t:l2.length<=1000/\m2.length<=1000)(u:l3.length<=1000/\m3.length<=1000)(v:l4.length<=1000/\m4.length<=1000)(x:l5.length<=1000/\m5.length<=1000)(y: -9223372036854775808<=fi/\fi<=9223372036854775807)(z: -9223372036854775808<=mo/\mo<=9223372036854775807):
 aj ae 35 #[af #[J s1,D A1 l1.length c1,D D1 m1.length e1,J s2,D A2 l2.length c2,D D2 m2.length e2,J s3,D A3 l3.length c3,D D3 m3.length e3,J s4,D A4 l4.length c4,D D4 m4.length e4,J s5,D A5 l5.length c5,D D5 m5.length e5,H I fi,H I mo]] w λe A=>e=aw (J (Pc.de (List.all [(s1,l1,m1),(s2,l2,m2),(s3,l3,m3),(s4,l4,m4),(s5,l5,m5)] bV) (mkRat (E.iv s1 (E.val l1)) (E.val m1)) (mkRat (E.iv s2 (E.val l2)) (E.val m2)) (mkRat (E.iv s3 (E.val l3)) (E.val m3)) (mkRat (E.iv s4 (E.val l4)) (E.val m4)) (mkRat (E.iv s5 (E.val l5)) (E.val m5)) fi mo==0))/\V w A:=by
 obtain⟨r,o⟩:∃r,Y (Pc.de (List.all [(s1,l1,m1),(s2,l2,m2),(s3,l3,m3),(s4,l4,m4),(s5,l5,m5)] bV) (mkRat (E.iv s1 (E.val l1)) (E.val m1)) (mkRat (E.iv s2 (E.val l2)) (E.val m2)) (mkRat (E.iv s3 (E.val l3)) (E.val m3)) (mkRat (E.iv s4 (E.val l4)) (E.val m4)) (mkRat (E.iv s5 (E.val l5)) (E.val m5)) fi mo=r):=⟨_,G rfl⟩;rw[o.out];go_enter func35,ntmps35;go_wp2_with fail;generalize q:ah w _=B at*;obtain⟨m,n⟩:=aC q;clear q;revert a g b i c j d k f l;refine bw m ?_;intro a g b i c j d k f l;have p:=n.dg;go_wp2_with fail
 with_reducible refine(CL a g b i c j d k f l s t u v x y z).mono ?_
 rintro e C ⟨rfl,u1⟩;revert m n a g b i c j d k f l;refine au u1 ?_;intro m n a g b i c j d k f l;revert p;revert u1;refine nL ?_;intro p;rw[o.out];go_wp2;go_ret;exact⟨rfl,m⟩
theorem CN (h:Fr w v e k)(c:Fr w (af #[J s1,D A1 l1.length c1,D D1 m1.length e1]) t 1000)(C:k<=100000):
 aj ae 60 #[af #[J s1,D A1 l1.length c1,D D1 m1.length e1,J s2,D A2 l2.length c2,D D2 m2.length e2,J s3,D A3 l3.length c3,D D3 m3.length e3,J s4,D A4 l4.length c4,D D4 m4.length e4,J s5,D A5 l5.length c5,D D5 m5.length e5,H I fi,H I mo],v] w λx u=>x=aw (J (decide (e<=t)))/\V w u:=by
 have j:=G (Pc.Ac e t);obtain⟨y,rfl,⟨g,p,c6,e1⟩,⟨i,q,d6,e2⟩⟩:=(bF k).form h;obtain⟨r,u0,B⟩:=y;simp only at e1 e2;subst e1 e2;have a:Fr w (af #[J r,D g p c6,D i q d6]) e k:=h;clear h;obtain⟨s,l⟩:∃s,Y (E.cI e t=s):=⟨_,G rfl⟩;rw[l.out]at j;show aj ae 60 #[af #[J s1,D A1 l1.length c1,D D1 m1.length e1,J s2,D A2 l2.length c2,D D2 m2.length e2,J s3,D A3 l3.length c3,D D3 m3.length e3,J s4,D A4 l4.length c4,D D4 m4.length e4,J s5,D A5 l5.length c5,D D5 m5.length e5,H I fi,H I mo],af #[J r,D g p c6,D i q d6]] w _;go_enter func60,ntmps60;go_wp2_with fail;generalize o:ah (ah w _) _=z at*;obtain⟨b,d,f⟩:=br o;clear o;replace a:=a.up b;replace c:=c.up b;have m:=d.dg;have n:=f.c3;go_wp2_with fail
 with_reducible refine(f9 a c (by omega) (by omega)).mono ?_
 rintro e A ⟨rfl,u1⟩;revert b d f a c m n;revert u1;refine eR ?_;intro b d f a c m n;rw[l.out];go_wp2;go_ret;exact⟨by rw[<-j.out];rfl,b⟩
theorem ua {v1 v2 v3:W}{eC want:Rat}(h1:Fr w v1 t k)(h2:Fr w v2 eC k)(I:Fr w v3 want k)(aT:k<=400000):
 aj ae 13 #[v1,v2,v3] w (dq (Pc.cut t eC want) w):=by
 obtain⟨x,rfl,⟨L,Z,c1,p⟩,⟨P,ag,d1,q⟩⟩:=(bF k).form h1;obtain⟨ak,u0,V⟩:=x;simp only at p q;subst p q;obtain⟨x,rfl,⟨M,aa,c2,p⟩,⟨Q,ai,d2,q⟩⟩:=(bF k).form h2;obtain⟨al,u0,V⟩:=x;simp only at p q;subst p q;obtain⟨x,rfl,⟨N,ab,c3,p⟩,⟨R,p3,d3,q⟩⟩:=(bF k).form I;obtain⟨am,u0,V⟩:=x;simp only at p q;subst p q;have c:Fr w (af #[J ak,D L Z c1,D P ag d1]) t k:=h1;have b:Fr w (af #[J al,D M aa c2,D Q ai d2]) eC k:=h2;have d:Fr w (af #[J am,D N ab c3,D R p3 d3]) want k:=I;clear h1 h2 I;have U:=b.lq.sub c.lq;have C:Y (Pc.cut t eC want=if eC-t<want then eC-t else want):=G rfl;obtain⟨y,S⟩:∃az,Y (eC-t=az):=⟨_,G rfl⟩;rw[S.out]at C U;have H:=G (E.iP want y);obtain⟨B,T⟩:∃B,Y (E.cI want y=B):=⟨_,G rfl⟩;rw[T.out]at H;show aj ae 13 #[af #[J ak,D L Z c1,D P ag d1],af #[J al,D M aa c2,D Q ai d2],af #[J am,D N ab c3,D R p3 d3]] w _;go_enter func13,ntmps13;go_wp2_with fail;generalize v:ah (ah (ah (ah w _) _) _) _=aE at*;obtain⟨f,g,i,j,a⟩:=dn v;clear v;revert c b d;refine bo f ?_;intro c b d;have m:=g.c3;have n:=i.c3;have o:=j.c3;have r:=a.c3;have A:=a.free;go_wp2_with fail
 with_reducible refine(sa b c (by omega) (by omega)).mono ?_
 rintro X ao ⟨aB,rfl,e,u1⟩;revert f g i j a c b d m n o r;refine au u1 ?_;intro f g i j a c b d m n o r;replace A:=a.free;clear u1;rw[S.out]at e;obtain⟨aI,aK,rfl,e,l⟩:=e;obtain⟨Al,aU,aP,rfl⟩:=e.shape;obtain⟨aA,aV,aQ,rfl⟩:=l.shape;have aq:=g.d3;have ar:=i.d3;have av:=j.d3;have ax:=a.d3;have ay:=a.fa;go_wp2_with fail;clear aq ar av ax ay;generalize v:ah ao _=aF at*;obtain⟨K,s⟩:=aC v;clear v;have aM:=g.lt;have aN:=i.lt;have aO:=j.lt;have aY:=a.lt;revert f g i j a c b d m n e l;refine au K ?_;intro f g i j a c b d m n e l;revert o r;refine cR K ?_;intro o r;replace A:=a.free;clear K;have an:=s.c3
 with_reducible refine(f9 d ((eN e l).fr U) (by omega) (by omega)).mono ?_
 rintro X aG ⟨rfl,u3⟩;revert s f g i j a c b d m e l;refine au u3 ?_;intro s f g i j a c b d m e l;revert n o r;refine bo u3 ?_;intro n o r;replace A:=a.free;replace an:=s.c3;clear u3;rw[T.out]
 by_cases u:y<want
 .have k2:B>0:=H.out.2 u;have F:Y (Pc.cut t eC want=y):=G (by rw[C.out,if_pos u]);clear u;go_wp2_with fail;exact di rfl rfl rfl (by rw[F.out];exact eN e l) a trivial trivial trivial f (by omega)
 .have k2:¬(B>0):=λaw=>u (H.out.1 aw)
  have F:Y (Pc.cut t eC want=want):=G (by rw[C.out,if_neg u]);clear u;go_wp2_with fail
  with_reducible refine(dx d (by omega)).mono ?_
  rintro X aH ⟨aD,rfl,z,u4⟩;revert s f g i j a c b d m e l;refine au u4 ?_;intro s f g i j a c b d m e l;revert n o r;refine bo u4 ?_;intro n o r
  replace A:=a.free;replace an:=s.c3;clear u4;obtain⟨aJ,aL,rfl,z,nd⟩:=z;obtain⟨An,aW,aR,rfl⟩:=z.shape;obtain⟨And,aX,aS,rfl⟩:=nd.shape;go_wp2_with fail;exact di rfl rfl rfl (by rw[F.out];exact eN z nd) a trivial trivial trivial f (by omega)
theorem nf {n d:Int}(m: -9223372036854775808<=n/\n<=9223372036854775807)(l: -9223372036854775808<=d/\d<=9223372036854775807)(w:O):aj ae 84 #[H I n,H I d] w (dq ((n:Rat)/(d:Rat)) w):=by
 obtain⟨q,g⟩:∃q,Y ((n:Rat)/(d:Rat)=q):=⟨_,G rfl⟩;rw[g.out];go_enter func84,ntmps84;go_wp2_with fail;generalize e:ah w _=v at*;obtain⟨c,b⟩:=aC e;clear e;have f:=b.c3;have j:=b.free;go_wp2_with fail
 with_reducible refine(sb m l _).mono ?_
 rintro C k ⟨u,rfl,a,u1⟩;revert c b f;refine bo u1 ?_;intro c b f;replace j:=b.free;clear u1;rw[g.out]at a;obtain⟨y,z,rfl,a,ad⟩:=a;obtain⟨s,D,A,rfl⟩:=a.shape;obtain⟨t,E,B,rfl⟩:=ad.shape;have o:=b.d3;have p:=b.fa;go_wp2_with fail;clear o p;generalize e:ah k _=x at*;obtain⟨i,r⟩:=aC e;clear e;have F:=b.lt;revert c b f a ad;refine b8 i ?_;intro c b f a ad;replace j:=b.free;clear i;have J:=r.c3;exact di rfl rfl rfl (eN a ad) b trivial trivial trivial c (by omega)
theorem CO {z:Int}(h:Ws w u (E.words z.natAbs)):Zw w (af #[J (E.aB z),u]) z:=⟨u,rfl,h⟩
theorem CP (w:O)(s:Bool)(a:Option am)(n c:Nat):(Instr.field 51 (af #[J s,D a n c]) 1).run ae w= .ok (D a n c) w:=by kernel_rfl
theorem CQ (h:Fr w v x k)(bG:k<=10000)(h1:1<=fi)(h2:fi<=1024):aj ae 74 #[v,H I fi] w (dq (Pc.down x fi) w):=by
 obtain⟨ba,rfl,⟨ar,aM,c1,aT⟩,⟨au,aN,d1,aU⟩⟩:=(bF k).form h;obtain⟨aO,u0,bD⟩:=ba;simp only at aT aU;subst aT aU;have s:Fr w (af #[J aO,D ar aM c1,D au aN d1]) x k:=h;clear h;have aB:E.Lq (fi:Rat) 2:=dR (by omega);obtain⟨aP,aA⟩:∃aP,Y ((fi:Rat)=aP):=⟨_,G rfl⟩;rw[aA.out]at aB;have aC:=s.lq.mul aB;obtain⟨Q,ay⟩:∃Q,Y (x*aP=Q):=⟨_,G rfl⟩;rw[ay.out]at aC;have aR:=E.Lq.floor aC;obtain⟨P,aw⟩:∃P,Y (Q.floor=P):=⟨_,G rfl⟩;rw[aw.out]at aR;have bl:(E.words fi.natAbs).length<=2:=(dR (n:=fi) (by omega)).1;have aQ:Y (mkRat P (E.val (E.words fi.natAbs))=Pc.down x fi):=G (by rw[E.bl,<-aw.out,<-ay.out,<-aA.out];rfl);obtain⟨T,aY⟩:∃T,Y (Pc.down x fi=T):=⟨_,G rfl⟩;rw[aY.out]at aQ|-;have bE:=CP;show aj ae 74 #[af #[J aO,D ar aM c1,D au aN d1],H I fi] w _;go_enter func74,ntmps74;go_upto_region 1 with fail
 generalize u:ah (ah w _) _=aS at*;obtain⟨b,q,a⟩:=br u;clear u;replace s:=s.up b;have L:=q.c3;obtain⟨g,j,l⟩:=a.c3;have y:=a.free
 go_cut [5] (λa8 N=> ∃(ao:Nat) (R:Option am) (ab X:Nat),a8=az (U ⟨ao,0,none⟩)/\Bx 51 N ao [J (E.aB P),D R ab X]/\Ws N (D R ab X) (E.words P.natAbs)/\Bx 53 N (w.heap.size+1) [J false,D none 0 0,D none 0 0]/\V w N)
 case first=>
  clear g j l;revert b q a s;refine bf (V.refl aS).drew ?_;intro b q a s
  replace L:=q.c3;obtain⟨g,j,l⟩:=a.c3;replace y:=a.free;refine aZ ?_;refine a3 (S:=λal=>V w al/\Cz al (w.heap.size) 0 [J aO,D ar aM c1,D au aN d1]) (by kernel_rfl) (by exact⟨b,q.cz⟩) (λm=> ?_);generalize aS.drew=t at*;refine aa 0 ?_;refine aa 1 ?_
  repeat' first
   |refine ak [2,5] ?_
   |refine ak [2] ?_
   |refine ak [3,5] ?_
   |refine ak [3] ?_
   |refine ak [4,5] ?_
   |refine ak [4] ?_
   |refine ak [5] ?_
   |refine ak [6] ?_
   |refine av (i:=2) rfl (λA aD=> ?_) ?_
   |refine av (i:=3) rfl (λA bh=> ?_) ?_
   |refine av (i:=4) rfl (λA aH=> ?_) ?_
   |refine av (i:=5) rfl (λA bi=> ?_) ?_
   |refine av (i:=6) rfl (λA bq=> ?_) ?_
   |exact bm
   |(have e:=aD;clear aD
     (try clear m)
     go_simp;go_at_call 22
     with_reducible refine(fd (n:=fi) (by omega) _).mono ?_
     rintro an t ⟨a1,rfl,o,d⟩;revert b q a s L;refine b8 d ?_;intro b q a s L
     try(replace p:=p.up d)
     try(replace f:=f.up d)
     try(replace C:=C.up d)
     try(replace c:=c.up d)
     replace y:=a.free;clear g j l;obtain⟨g,j,l⟩:=a.c3;clear d;rw[aA.out]at o;obtain⟨bp,bu,rfl,o,C⟩:=o;obtain⟨bd,no,bx,rfl⟩:=o.shape;obtain⟨bg,bI,bz,rfl⟩:=C.shape
     try go_wp2_with fail
     refine ax e (by exact⟨b,q.cz⟩) (λm=> ?_);clear e A)
   |(have e:=bh;clear bh
     (try clear m)
     go_simp;go_at_call 38
     with_reducible refine(ib s ((eN o C).fr aB) (by omega) (by omega)).mono ?_
     rintro an t ⟨bn,rfl,p,d⟩;revert b q a s L;refine b8 d ?_;intro b q a s L
     try(replace o:=o.up d)
     try(replace f:=f.up d)
     try(replace C:=C.up d)
     try(replace c:=c.up d)
     replace y:=a.free;clear g j l;obtain⟨g,j,l⟩:=a.c3;clear d;rw[ay.out]at p
     try go_wp2_with fail
     refine ax e (by exact⟨b,q.cz⟩) (λm=> ?_);clear e A)
   |(have e:=aH;clear aH
     (try clear m)
     go_simp;go_at_call 113
     with_reducible refine(zz (p.fr aC) (by omega)).mono ?_
     rintro an t ⟨a2,rfl,f,d⟩;revert b q a s L;refine b8 d ?_;intro b q a s L
     try(replace o:=o.up d)
     try(replace p:=p.up d)
     try(replace C:=C.up d)
     try(replace c:=c.up d)
     replace y:=a.free;clear g j l;obtain⟨g,j,l⟩:=a.c3;clear d;rw[aw.out]at f;obtain⟨bo,rfl,f⟩:=f;obtain⟨R,ab,X,rfl⟩:=f.shape
     try go_wp2_with fail
     refine ax e (by exact⟨b,q.cz⟩) (λm=> ?_);clear e A)
   |(have e:=bi;clear bi
     (try clear m)
     go_simp;have bw:=q.lt;have bN:=a.lt;have bP:=b.size;generalize Z:t.heap.size=a6 at*;generalize u:ah t _=t at*;obtain⟨B,c⟩:=b3 u Z;clear u Z;revert b q a s L;refine b8 B ?_;intro b q a s L
     try(replace o:=o.up B)
     try(replace p:=p.up B)
     try(replace f:=f.up B)
     try(replace C:=C.up B)
     replace y:=a.free;clear g j l;obtain⟨g,j,l⟩:=a.c3;clear B;refine ax e (by exact⟨b,q.cz⟩) (λm=> ?_);clear e A)
   |(have e:=bq;clear bq
     (try clear m)
     obtain⟨aF,aG⟩:=c.c2;have aJ:=c.free 0;have aK:=c.free 1;go_simp;clear aF aG aJ aK;generalize u:ag (ag t _ _) _ _=t at*;have r:=dp c u;clear u;replace s:=s.kw r.kw
     try(replace o:=o.kw r.kw)
     try(replace p:=p.kw r.kw)
     try(replace f:=f.kw r.kw)
     try(replace C:=C.kw r.kw)
     replace q:=q.bs r;replace a:=a.bs r;replace c:=r.new;replace b:=b.bs r;clear r;replace L:=q.c3;replace y:=a.free;clear g j l;obtain⟨g,j,l⟩:=a.c3;refine ax e (by exact⟨b,q.cz⟩) (λm=> ?_);clear e A)
   |refine aW (by decide +kernel) (aX ?_) _
   |fail
  all_goals try clear m
  all_goals obtain⟨F,K⟩:=c.c2
  all_goals
   go_wp2_with fail
   go_meet
   exact⟨a6,_,_,_,rfl,c,f,a,b⟩
 case rest=>
  obtain⟨ao,R,ab,X,rfl,c,f,a,b⟩:=hcut;obtain⟨g,j,l⟩:=a.c3;have y:=a.free;obtain⟨F,K⟩:=c.c2;go_upto_region 2 with fail
  go_cut [6,7] (λa9 _ N=> ∃(aL:Nat) (aq ai:Option am) (n aE Q aI:Nat),a9=az (U ⟨aL,0,none⟩)/\Bx 53 N aL [J (E.aB T.num),D aq n aE,D ai Q aI]/\Qw N (af #[J (E.aB T.num),D aq n aE,D ai Q aI]) T/\Bx 53 N (w.heap.size+1) [J false,D none 0 0,D none 0 0]/\V w N)
  case first=>
   clear F K;revert c f a b g j l;refine bS (V.refl wc).drew ?_;intro c f a b g j l
   replace y:=a.free;obtain⟨F,K⟩:=c.c2;refine aZ ?_;refine a3 (S:=λal=>V w al/\Cz al ao 0 [J (E.aB P),D R ab X]) (by kernel_rfl) (by exact⟨b,c.cz⟩) (λm=> ?_);generalize wc.drew=t at*;refine aa 0 ?_;refine aa 1 ?_
   repeat' first
    |refine aa 3 ?_
    |refine aa 5 ?_
    |refine aa 6 ?_
    |refine aa 7 ?_
    |refine ak [2,8] ?_
    |refine ak [2] ?_
    |refine ak [4,8] ?_
    |refine ak [4] ?_
    |refine ak [8] ?_
    |refine ak [9] ?_
    |refine ak [10] ?_
    |refine av (i:=2) rfl (λA aD=> ?_) ?_
    |refine av (i:=4) rfl (λA aH=> ?_) ?_
    |refine av (i:=8) rfl (λA bB=> ?_) ?_
    |refine av (i:=9) rfl (λA bK=> ?_) ?_
    |refine av (i:=10) rfl (λA aV=> ?_) ?_
    |exact bm
    |(have e:=aD;clear aD
      (try clear m)
      go_simp;go_at_call 52
      with_reducible refine(oE (n:=fi) (by omega) _).mono ?_
      rintro an t ⟨a1,rfl,M,d⟩;revert c f a b;refine bf d ?_;intro c f a b
      try(replace p:=p.up d)
      try(replace pd:=pd.up d)
      try(replace z:=z.up d)
      replace y:=a.free;clear g j l;obtain⟨g,j,l⟩:=a.c3;clear F K;obtain⟨F,K⟩:=c.c2;clear d;obtain⟨bt,rfl,M⟩:=M;obtain⟨bk,bM,cz,rfl⟩:=M.shape
      try go_wp2_with fail
      refine ax e (by exact⟨b,c.cz⟩) (λm=> ?_);clear e A)
    |(have e:=aH;clear aH
      (try clear m)
      go_simp;go_at_call 114
      with_reducible refine(oG ((CO f).wh aR) M (by omega) (by omega)).mono ?_
      rintro an t ⟨a2,rfl,p,d⟩;revert c f a b;refine bf d ?_;intro c f a b
      try(replace M:=M.up d)
      try(replace pd:=pd.up d)
      try(replace z:=z.up d)
      replace y:=a.free;clear g j l;obtain⟨g,j,l⟩:=a.c3;clear F K;obtain⟨F,K⟩:=c.c2;clear d;rw[aQ.out]at p;obtain⟨bs,bv,rfl,p,pd⟩:=p;obtain⟨Ap,bJ,bA,rfl⟩:=p.shape;obtain⟨bj,bL,bC,rfl⟩:=pd.shape
      try go_wp2_with fail
      refine ax e (by exact⟨b,c.cz⟩) (λm=> ?_);clear e A)
    |(have e:=bB;clear bB
      (try clear m)
      go_simp;have bO:=a.lt;have bQ:=c.lt;have bR:=b.size;generalize Z:t.heap.size=a7 at*;generalize u:ah t _=t at*;obtain⟨B,z⟩:=b3 u Z;clear u Z;revert c f a b;refine bf B ?_;intro c f a b
      try(replace M:=M.up B)
      try(replace p:=p.up B)
      try(replace pd:=pd.up B)
      replace y:=a.free;clear g j l;obtain⟨g,j,l⟩:=a.c3;clear F K;obtain⟨F,K⟩:=c.c2;clear B;refine ax e (by exact⟨b,c.cz⟩) (λm=> ?_);clear e A)
    |(have e:=bK;clear bK
      (try clear m)
      obtain⟨aF,aG,a4⟩:=z.c3;have aJ:=z.free 0;have aK:=z.free 1;have a5:=z.free 2;go_simp;clear aF aG a4 aJ aK a5;generalize u:ag (ag (ag t _ _) _ _) _ _=t at*;have r:=dh z u;clear u;replace f:=f.kw r.kw
      try(replace M:=M.kw r.kw)
      try(replace p:=p.kw r.kw)
      try(replace pd:=pd.kw r.kw)
      replace a:=a.bs r;replace c:=c.bs r;replace z:=r.new;replace b:=b.bs r;clear r;replace y:=a.free;clear g j l;obtain⟨g,j,l⟩:=a.c3;clear F K;obtain⟨F,K⟩:=c.c2;refine ax e (by exact⟨b,c.cz⟩) (λm=> ?_);clear e A)
    |(have e:=aV;clear aV
      (try clear m)
      go_simp;refine ax e (by exact⟨b,c.cz⟩) (λm=> ?_);clear e A)
    |refine aW (by decide +kernel) (aX ?_) _
    |fail
   all_goals try clear m
   all_goals have bb:=z.c3
   all_goals
    go_wp2_with fail
    go_meet
    exact⟨a7,_,_,_,_,_,_,rfl,z,eN p pd,a,b⟩
  case rest=>
   obtain⟨aL,aq,ai,n,aE,bH,aI,rfl,z,R2,a,b⟩:=hcut;clear F K f c g j l y;obtain⟨g,j,l⟩:=a.c3;have y:=a.free;have bb:=z.c3;go_wp2_with fail;exact di rfl rfl rfl R2 a trivial trivial trivial b (by omega)
theorem ub (h:E.Lq x k)(h1:1<=fi)(h2:fi<=1024):E.Lq (Pc.down x fi) (k+2):=
 E.Lq.mk (E.Lq.floor (h.mul (dR (n:=fi) (by omega)))) (aQ (E.og (by omega)) (by omega)) (by omega)
theorem CR (s:Fr w (af #[J s1,D A1 l1.length c1,D D1 m1.length e1]) cZ 1000)(p:Fr w (af #[J s2,D A2 l2.length c2,D D2 m2.length e2]) safe 1000)(F3:Fr w (af #[J s3,D A3 l3.length c3,D D3 m3.length e3]) low 1000)(f:Fr w (af #[J s4,D A4 l4.length c4,D D4 m4.length e4]) high 1000)(h:Fr w v e k)(ce:k<=4000)(h1:1<=fi)(h2:fi<=1024):
 aj ae 39 #[af #[J s1,D A1 l1.length c1,D D1 m1.length e1,J s2,D A2 l2.length c2,D D2 m2.length e2,J s3,D A3 l3.length c3,D D3 m3.length e3,J s4,D A4 l4.length c4,D D4 m4.length e4,J s5,D A5 l5.length c5,D D5 m5.length e5,H I fi,H I mo],v] w (dq (Pc.et cZ safe low high fi e) w):=by
 obtain⟨bJ,rfl,⟨aA,aN,c6,ba⟩,⟨aB,aO,d6,a9⟩⟩:=(bF k).form h;obtain⟨aP,u0,ca⟩:=bJ;simp only at ba a9;subst ba a9;have t:Fr w (af #[J aP,D aA aN c6,D aB aO d6]) e k:=h;clear h;have ar:Y (∀m,Pc.down (safe*cZ/e) fi=m->Pc.et cZ safe low high fi e=if e=0 then high else if m<low then low else if high<m then high else m):=G (λm bC=>by rw[<-bC];rfl);have aI:=p.lq.mul s.lq;have LT:=aI.div t.lq;obtain⟨bn,aU⟩:∃Q,Y (safe*cZ=Q):=⟨_,G rfl⟩;rw[aU.out]at aI LT ar;obtain⟨au,aV⟩:∃Q,Y (bn/e=Q):=⟨_,G rfl⟩;rw[aV.out]at LT ar;have aJ:=ub LT h1 h2;obtain⟨m,aH⟩:∃Q,Y (Pc.down au fi=Q):=⟨_,G rfl⟩;rw[aH.out]at aJ;have aE:=G (ar.out m aH.out);clear ar;obtain⟨T,bl⟩:∃Q,Y (Pc.et cZ safe low high fi e=Q):=⟨_,G rfl⟩;rw[bl.out]at aE|-;show aj ae 39 #[af #[J s1,D A1 l1.length c1,D D1 m1.length e1,J s2,D A2 l2.length c2,D D2 m2.length e2,J s3,D A3 l3.length c3,D D3 m3.length e3,J s4,D A4 l4.length c4,D D4 m4.length e4,J s5,D A5 l5.length c5,D D5 m5.length e5,H I fi,H I mo],af #[J aP,D aA aN c6,D aB aO d6]] w _;go_enter func39,ntmps39;go_upto_region 1 with fail
 generalize B:ah (ah (ah w _) _) _=a2 at*;obtain⟨b,c,l,a⟩:=dm B;clear B;revert s p F3 f t;refine b8 b ?_;intro s p F3 f t;have g:=c.dg;have al:=l.c3;have j:=a.c3;have r:=a.free
 go_cut [5,6] (λbH bI N=> ∃(X:Nat) (ay ai:Option am) (aM aK z aL:Nat),bH=az (U ⟨X,0,none⟩)/\bI=J (!decide (e=0))/\Bx 53 N X [J (E.aB au.num),D ay aM aK,D ai z aL]/\Qw N (af #[J (E.aB au.num),D ay aM aK,D ai z aL]) au/\w.heap.size+2<X/\Bx 55 N w.heap.size [J s1,D A1 l1.length c1,D D1 m1.length e1,J s2,D A2 l2.length c2,D D2 m2.length e2,J s3,D A3 l3.length c3,D D3 m3.length e3,J s4,D A4 l4.length c4,D D4 m4.length e4,J s5,D A5 l5.length c5,D D5 m5.length e5,H I fi,H I mo]/\Bx 53 N (w.heap.size+1+1) [J false,D none 0 0,D none 0 0]/\Fr N (af #[J s2,D A2 l2.length c2,D D2 m2.length e2]) safe 1000/\Fr N (af #[J s3,D A3 l3.length c3,D D3 m3.length e3]) low 1000/\Fr N (af #[J s4,D A4 l4.length c4,D D4 m4.length e4]) high 1000/\V w N)
 case first=>
  clear j;revert b c l a s p F3 f t g;refine bw (V.refl a2).drew ?_;intro b c l a s p F3 f t g
  replace al:=l.c3;have j:=a.c3;replace r:=a.free;refine aZ ?_;refine a3 (S:=λaQ=>V w aQ/\Cz aQ (w.heap.size) 0 [J s1,D A1 l1.length c1,D D1 m1.length e1,J s2,D A2 l2.length c2,D D2 m2.length e2,J s3,D A3 l3.length c3,D D3 m3.length e3,J s4,D A4 l4.length c4,D D4 m4.length e4,J s5,D A5 l5.length c5,D D5 m5.length e5,H I fi,H I mo]/\Cz aQ (w.heap.size+1) 0 [J aP,D aA aN c6,D aB aO d6]) (by kernel_rfl) (by exact⟨b,c.cz,l.cz⟩) (λA=> ?_);generalize a2.drew=P at*;refine aa 0 ?_;refine aa 1 ?_;refine aa 2 ?_;refine aa 3 ?_;refine aa 5 ?_
  repeat' first
   |refine aa 7 ?_
   |refine aa 8 ?_
   |refine aa 9 ?_
   |refine ak [4,10] ?_
   |refine ak [4] ?_
   |refine ak [6,10] ?_
   |refine ak [6] ?_
   |refine ak [10] ?_
   |refine ak [11] ?_
   |refine ak [12] ?_
   |refine av (i:=4) rfl (λK bB=> ?_) ?_
   |refine av (i:=6) rfl (λK bK=> ?_) ?_
   |refine av (i:=10) rfl (λK bh=> ?_) ?_
   |refine av (i:=11) rfl (λK bi=> ?_) ?_
   |refine av (i:=12) rfl (λK bq=> ?_) ?_
   |exact bm
   |(have x:=bB;clear bB
     (try clear A)
     go_simp;go_at_call 38
     with_reducible refine(ib p s (by omega) (by omega)).mono ?_
     rintro e P ⟨bQ,rfl,z,C⟩;revert b c l a s p F3 f t g;refine bw C ?_;intro b c l a s p F3 f t g
     try(replace q:=q.up C)
     try(replace F:=F.up C)
     try(replace d:=d.up C)
     replace al:=l.c3;replace r:=a.free;clear j;have j:=a.c3;clear C;rw[aU.out]at z
     try go_wp2_with fail
     refine ax x (by exact⟨b,c.cz,l.cz⟩) (λA=> ?_);clear x K)
   |(have x:=bK;clear bK
     (try clear A)
     go_simp;go_at_call 73
     with_reducible refine(oF (z.fr aI) t (by omega) (by omega)).mono ?_
     rintro e P ⟨bT,rfl,q,C⟩;revert b c l a s p F3 f t g;refine bw C ?_;intro b c l a s p F3 f t g
     try(replace z:=z.up C)
     try(replace F:=F.up C)
     try(replace d:=d.up C)
     replace al:=l.c3;replace r:=a.free;clear j;have j:=a.c3;clear C;rw[aV.out]at q;obtain⟨bY,b0,rfl,q,F⟩:=q;obtain⟨bO,nq,b6,rfl⟩:=q.shape;obtain⟨bP,ci,b7,rfl⟩:=F.shape
     try go_wp2_with fail
     refine ax x (by exact⟨b,c.cz,l.cz⟩) (λA=> ?_);clear x K)
   |(have x:=bh;clear bh
     (try clear A)
     go_simp;have b1:=c.lt;have b2:=l.lt;have bG:=a.lt;have ck:=b.size;generalize bb:P.heap.size=bz at*;generalize B:ah P _=P at*;obtain⟨an,d⟩:=b3 B bb;clear B bb;revert b c l a s p F3 f t g;refine bw an ?_;intro b c l a s p F3 f t g
     try(replace z:=z.up an)
     try(replace q:=q.up an)
     try(replace F:=F.up an)
     replace al:=l.c3;replace r:=a.free;clear j;have j:=a.c3;clear an;refine ax x (by exact⟨b,c.cz,l.cz⟩) (λA=> ?_);clear x K)
   |(have x:=bi;clear bi
     (try clear A)
     obtain⟨br,bs,bt⟩:=d.c3;have bu:=d.free 0;have bv:=d.free 1;have bx:=d.free 2;go_simp;clear br bs bt bu bv bx;generalize B:ag (ag (ag P _ _) _ _) _ _=P at*;have n:=dh d B;clear B;revert s p F3 f t;refine b8 n.kw ?_;intro s p F3 f t
     try(replace z:=z.kw n.kw)
     try(replace q:=q.kw n.kw)
     try(replace F:=F.kw n.kw)
     replace c:=c.bs n;replace l:=l.bs n;replace a:=a.bs n;replace d:=n.new;replace b:=b.bs n;clear n;clear g;have g:=c.dg;replace al:=l.c3;replace r:=a.free;clear j;have j:=a.c3;refine ax x (by exact⟨b,c.cz,l.cz⟩) (λA=> ?_);clear x K)
   |(have x:=bq;clear bq
     (try clear A)
     go_simp;refine ax x (by exact⟨b,c.cz,l.cz⟩) (λA=> ?_);clear x K)
   |refine aW (by decide +kernel) (aX ?_) _
   |fail
  all_goals try clear A
  all_goals have R:=d.c3
  all_goals
   have cf:=bG;go_wp2_with fail
   go_meet
   exact⟨bz,_,_,_,_,_,_,rfl,rfl,d,eN q F,by omega,c,a,p,F3,f,b⟩
 case rest=>
  obtain⟨X,ay,ai,aM,aK,z,aL,rfl,rfl,d,aw,cc,c,a,p,F3,f,b⟩:=hcut;have cb:w.heap.size<X:=by omega
  clear g j r
  by_cases Z:e=0
  .have aC:Y ((!decide (e=0))=false):=G (by rw[decide_eq_true Z];rfl);have ao:Y (high=T):=G (by rw[aE.out,if_pos Z]);clear Z;rw[aC.out];have g:=c.dg;have j:=a.c3;have r:=a.free;go_wp2_with fail
   with_reducible refine(dx f (by omega)).mono ?_
   rintro e a4 ⟨bo,rfl,y,u51⟩;revert c a f b g;refine b8 u51 ?_;intro c a f b g;revert j;refine cj u51 ?_;intro j
   replace r:=a.free;clear u51;obtain⟨a5,a6,rfl,y,M⟩:=y;obtain⟨aS,bd,a7,rfl⟩:=y.shape;obtain⟨aT,bg,a8,rfl⟩:=M.shape;go_wp2_with fail;exact di rfl rfl rfl (by rw[<-ao.out];exact eN y M) a trivial trivial trivial b (by omega)
  .have aC:Y ((!decide (e=0))=true):=G (by rw[decide_eq_false Z];rfl);have ao:Y (T=if m<low then low else if high<m then high else m):=G (by rw[aE.out,if_neg Z]);clear Z;rw[aC.out];have cd:¬(X=w.heap.size):=by omega
   have g:=c.dg;have j:=a.c3;have r:=a.free;have R:=d.c3;have bL:=d.free;go_wp2_with fail
   with_reducible refine(CQ (aw.fr LT) (by omega) h1 h2).mono ?_
   rintro e a4 ⟨bo,rfl,o,u51⟩;revert d aw c a F3 f b g;refine b9 u51 ?_;intro d aw c a F3 f b g;revert j;refine cj u51 ?_;intro j
   replace r:=a.free;replace R:=d.c3;replace bL:=d.free;clear u51;rw[aH.out]at o;obtain⟨bX,bZ,rfl,o,u⟩:=o;obtain⟨bM,cg,b4,rfl⟩:=o.shape;obtain⟨bN,ch,b5,rfl⟩:=u.shape;go_wp2_with fail;clear aw;generalize B:ag (ag (ag a4 _ _) _ _) _ _=bU at*;have n:=dh d B;clear B;revert F3 f o u;refine bf n.kw ?_;intro F3 f o u
   replace c:=c.bs n;replace a:=a.bs n;replace d:=n.new;replace b:=b.bs n;clear n;clear g j;have g:=c.dg;have j:=a.c3;replace r:=a.free;replace R:=d.c3;have aF:=G (Pc.lt_iff m low);obtain⟨bj,aY⟩:∃aR,Y (E.cI m low=aR):=⟨_,G rfl⟩;rw[aY.out]at aF;have aG:=G (E.iP m high);obtain⟨bk,a1⟩:∃aR,Y (E.cI m high=aR):=⟨_,G rfl⟩;rw[a1.out]at aG
   with_reducible refine(f9 ((eN o u).fr aJ) F3 (by omega) (by omega)).mono ?_
   rintro e bV ⟨rfl,u53⟩;revert F3 f o u c a d b g;refine bE u53 ?_;intro F3 f o u c a d b g;revert j;refine cj u53 ?_;intro j
   replace r:=a.free;replace R:=d.c3;clear u53;rw[aY.out]
   by_cases ab:m<low
   .have k2:bj<0:=aF.out.2 ab;have aq:Y (low=T):=G (by rw[ao.out,if_pos ab]);clear ab;go_wp2_with fail
    with_reducible refine(dx F3 (by omega)).mono ?_
    rintro e bp ⟨bR,rfl,y,u54⟩;revert F3 f o u c a d b g;refine bE u54 ?_;intro F3 f o u c a d b g;revert j;refine cj u54 ?_;intro j
    replace r:=a.free;replace R:=d.c3;clear u54;obtain⟨a5,a6,rfl,y,M⟩:=y;obtain⟨aS,bd,a7,rfl⟩:=y.shape;obtain⟨aT,bg,a8,rfl⟩:=M.shape;go_wp2_with fail;exact di rfl rfl rfl (by rw[<-aq.out];exact eN y M) a trivial trivial trivial b (by omega)
   have k2:¬(bj<0):=λL=>ab (aF.out.1 L)
   have aq:Y (T=if high<m then high else m):=G (by rw[ao.out,if_neg ab]);clear ab;go_wp2_with fail
   with_reducible refine(f9 ((eN o u).fr aJ) f (by omega) (by omega)).mono ?_
   rintro e bp ⟨rfl,u54⟩;revert F3 f o u c a d b g;refine bE u54 ?_;intro F3 f o u c a d b g;revert j;refine cj u54 ?_;intro j
   replace r:=a.free;replace R:=d.c3;clear u54;rw[a1.out]
   by_cases L:high<m
   .have bD:bk>0:=aG.out.2 L;have aD:Y (high=T):=G (by rw[aq.out,if_pos L]);clear L;go_wp2_with fail
    with_reducible refine(dx f (by omega)).mono ?_
    rintro e bW ⟨bS,rfl,y,u55⟩;revert F3 f o u c a d b g;refine bE u55 ?_;intro F3 f o u c a d b g;revert j;refine cj u55 ?_;intro j
    replace r:=a.free;replace R:=d.c3;clear u55;obtain⟨a5,a6,rfl,y,M⟩:=y;obtain⟨aS,bd,a7,rfl⟩:=y.shape;obtain⟨aT,bg,a8,rfl⟩:=M.shape;go_wp2_with fail;exact di rfl rfl rfl (by rw[<-aD.out];exact eN y M) a trivial trivial trivial b (by omega)
   have bD:¬(bk>0):=λbA=>L (aG.out.1 bA)
   have aD:Y (m=T):=G (by rw[aq.out,if_neg L]);clear L;go_wp2_with fail;exact di rfl rfl rfl (by rw[<-aD.out];exact eN o u) a trivial trivial trivial b (by omega)
theorem CS (h1:E.Lq cZ 1000)(h2:E.Lq safe 1000)(d:E.Lq low 1000)(a:E.Lq high 1000)(g:E.Lq e k)(b:1<=fi)(c:fi<=1024):E.Lq (Pc.et cZ safe low high fi e) (2004+k):=by
 unfold Pc.et;have f:=ub ((h2.mul h1).div g) b c
 split
 .exact a.mono (by omega)
 .split
  .exact d.mono (by omega)
  .split
   .exact a.mono (by omega)
   .exact f.mono (by omega)
theorem pH {h:W}{sz:Rat}{kh:Nat}(K:Fr w (af #[J s1,D A1 l1.length c1,D D1 m1.length e1]) cZ 1000)(L:Fr w (af #[J s2,D A2 l2.length c2,D D2 m2.length e2]) safe 1000)(F3:Fr w (af #[J s3,D A3 l3.length c3,D D3 m3.length e3]) low 1000)(M:Fr w (af #[J s4,D A4 l4.length c4,D D4 m4.length e4]) high 1000)(aA:Fr w h sz kh)(bb:kh<=400000)(az:Fr w v e k)(ba:k<=4000)(h1:1<=fi)(h2:fi<=1024):
 aj ae 10 #[af #[J s1,D A1 l1.length c1,D D1 m1.length e1,J s2,D A2 l2.length c2,D D2 m2.length e2,J s3,D A3 l3.length c3,D D3 m3.length e3,J s4,D A4 l4.length c4,D D4 m4.length e4,J s5,D A5 l5.length c5,D D5 m5.length e5,H I fi,H I mo],h,v] w (dq (sz*Pc.et cZ safe low high fi e) w):=by
 obtain⟨aI,rfl,⟨ao,aB,c6,al⟩,⟨ar,aD,d6,ak⟩⟩:=(bF kh).form aA;obtain⟨aF,u0,aS⟩:=aI;simp only at al ak;subst al ak;have P:Fr w (af #[J aF,D ao aB c6,D ar aD d6]) sz kh:=aA;obtain⟨aI,rfl,⟨aq,aC,ax,al⟩,⟨av,p7,ay,ak⟩⟩:=(bF k).form az;obtain⟨aG,u0,aS⟩:=aI;simp only at al ak;subst al ak;have N:Fr w (af #[J aG,D aq aC ax,D av p7 ay]) e k:=az;clear aA az;have aL:=CS K.lq L.lq F3.lq M.lq N.lq h1 h2;obtain⟨aO,aJ⟩:∃aH,Y (Pc.et cZ safe low high fi e=aH):=⟨_,G rfl⟩;rw[aJ.out]at aL|-;obtain⟨aY,aK⟩:∃aH,Y (sz*aO=aH):=⟨_,G rfl⟩;rw[aK.out];show aj ae 10 #[af #[J s1,D A1 l1.length c1,D D1 m1.length e1,J s2,D A2 l2.length c2,D D2 m2.length e2,J s3,D A3 l3.length c3,D D3 m3.length e3,J s4,D A4 l4.length c4,D D4 m4.length e4,J s5,D A5 l5.length c5,D D5 m5.length e5,H I fi,H I mo],af #[J aF,D ao aB c6,D ar aD d6],af #[J aG,D aq aC ax,D av p7 ay]] w _;go_enter func10,ntmps10;go_wp2_with fail;generalize aM:ah (ah (ah (ah w _) _) _) _=aw at*;obtain⟨b,T,X,Z,c⟩:=dn aM;clear aM;revert K L F3 M P N;refine bO b ?_;intro K L F3 M P N;have aP:=T.dg;have aQ:=X.c3;have aR:=Z.c3;have aT:=c.c3;have aE:=c.free;obtain⟨d,f,p,q,r,s,t,u,x,y,g,i,j,l,m,n,o⟩:=aP;obtain⟨z,A,B⟩:=aQ;obtain⟨C,E,F⟩:=aR;have an:=aT;revert b T X Z c K L F3 M P N d;refine au (V.refl aw).drew ?_;intro b T X Z c K L F3 M P N d;revert f p q r s t u x y g i j;refine au (V.refl aw).drew ?_;intro f p q r s t u x y g i j;revert l m n o z A B C E F;refine bw (V.refl aw).drew ?_;intro l m n o z A B C E F;have an:=c.c3;have aE:=c.free;refine aZ ?_;refine a3 (S:=λa=>V w a/\a.cell? ⟨w.heap.size,0,none⟩=U (J s1)/\a.cell? ⟨w.heap.size,1,none⟩=U (D A1 l1.length c1)/\a.cell? ⟨w.heap.size,2,none⟩=U (D D1 m1.length e1)/\a.cell? ⟨w.heap.size,3,none⟩=U (J s2)/\a.cell? ⟨w.heap.size,4,none⟩=U (D A2 l2.length c2)/\a.cell? ⟨w.heap.size,5,none⟩=U (D D2 m2.length e2)/\a.cell? ⟨w.heap.size,6,none⟩=U (J s3)/\a.cell? ⟨w.heap.size,7,none⟩=U (D A3 l3.length c3)/\a.cell? ⟨w.heap.size,8,none⟩=U (D D3 m3.length e3)/\a.cell? ⟨w.heap.size,9,none⟩=U (J s4)/\a.cell? ⟨w.heap.size,10,none⟩=U (D A4 l4.length c4)/\a.cell? ⟨w.heap.size,11,none⟩=U (D D4 m4.length e4)/\a.cell? ⟨w.heap.size,12,none⟩=U (J s5)/\a.cell? ⟨w.heap.size,13,none⟩=U (D A5 l5.length c5)/\a.cell? ⟨w.heap.size,14,none⟩=U (D D5 m5.length e5)/\a.cell? ⟨w.heap.size,15,none⟩=U (H I fi)/\a.cell? ⟨w.heap.size,16,none⟩=U (H I mo)/\a.cell? ⟨w.heap.size+1,0,none⟩=U (J aF)/\a.cell? ⟨w.heap.size+1,1,none⟩=U (D ao aB c6)/\a.cell? ⟨w.heap.size+1,2,none⟩=U (D ar aD d6)/\a.cell? ⟨w.heap.size+1+1,0,none⟩=U (J aG)/\a.cell? ⟨w.heap.size+1+1,1,none⟩=U (D aq aC ax)/\a.cell? ⟨w.heap.size+1+1,2,none⟩=U (D av p7 ay)) (by kernel_rfl) ?_ (λab=> ?_)
 .with_reducible exact⟨b,d,f,p,q,r,s,t,u,x,y,g,i,j,l,m,n,o,z,A,B,C,E,F⟩
 refine aa 0 ?_;refine aa 1 ?_;refine aa 2 ?_;refine bZ 3 (λai R=> ?_);go_simp
 (first
   |(go_at_call 39
     with_reducible refine(CR K L F3 M N (by omega) h1 h2).mono ?_
     rintro e a4 ⟨a1,rfl,ag,u1⟩;revert b T X Z c K L F3 M P N d;refine au u1 ?_;intro b T X Z c K L F3 M P N d;revert f p q r s t u x y g i j;refine au u1 ?_;intro f p q r s t u x y g i j;revert l m n o z A B C E F an;refine bC u1 ?_;intro l m n o z A B C E F an
     try(replace ag:=ag.up u1)
     try(replace Q:=Q.up u1)
     replace aE:=c.free;clear u1;rw[aJ.out]at ag))
 try go_wp2_with fail
 try clear ab
 refine R.out _ _ ?_ (λab=> ?_)
 .with_reducible exact⟨b,d,f,p,q,r,s,t,u,x,y,g,i,j,l,m,n,o,z,A,B,C,E,F⟩
 clear R ai
 try simp only[bc,bg]
 refine bZ 4 (λai R=> ?_);go_simp
 (first
   |(go_at_call 38
     with_reducible refine(ib P (ag.fr aL) (by omega) (by omega)).mono ?_
     rintro e a5 ⟨a2,rfl,Q,u2⟩;revert b T X Z c K L F3 M P N d;refine au u2 ?_;intro b T X Z c K L F3 M P N d;revert f p q r s t u x y g i j;refine au u2 ?_;intro f p q r s t u x y g i j;revert l m n o z A B C E F an;refine bC u2 ?_;intro l m n o z A B C E F an
     try(replace ag:=ag.up u2)
     try(replace Q:=Q.up u2)
     replace aE:=c.free;clear u2;rw[aK.out]at Q;obtain⟨a6,a7,rfl,Q,aN⟩:=Q;obtain⟨aU,nm,a8,rfl⟩:=Q.shape;obtain⟨aV,bd,a9,rfl⟩:=aN.shape))
 try go_wp2_with fail
 try clear ab
 refine R.out _ _ ?_ (λab=> ?_)
 .with_reducible exact⟨b,d,f,p,q,r,s,t,u,x,y,g,i,j,l,m,n,o,z,A,B,C,E,F⟩
 clear R ai
 try simp only[bc,bg]
 refine bZ 5 (λai R=> ?_);go_simp;skip
 try go_wp2_with fail
 try clear ab
 refine R.out _ _ ?_ (λab=> ?_)
 ·(first|with_reducible exact⟨b,d,f,p,q,r,s,t,u,x,y,g,i,j,l,m,n,o,z,A,B,C,E,F⟩|((try simp only[<-World.setCell_drew]);first|with_reducible exact⟨(us (us (us b))),(cf (cf (cf d))),(cf (cf (cf f))),(cf (cf (cf p))),(cf (cf (cf q))),(cf (cf (cf r))),(cf (cf (cf s))),(cf (cf (cf t))),(cf (cf (cf u))),(cf (cf (cf x))),(cf (cf (cf y))),(cf (cf (cf g))),(cf (cf (cf i))),(cf (cf (cf j))),(cf (cf (cf l))),(cf (cf (cf m))),(cf (cf (cf n))),(cf (cf (cf o))),(cf (cf (cf z))),(cf (cf (cf A))),(cf (cf (cf B))),(cf (cf (cf C))),(cf (cf (cf E))),(cf (cf (cf F)))⟩))
 clear R ai
 try simp only[bc,bg]
 refine aW (by kernel_rfl) ?_ _;refine aX ?_;clear ab;go_wp2_with fail;exact di rfl rfl rfl (eN Q aN) c trivial trivial trivial b (by omega)
theorem uc (h:Fr w v e k)(c:Fr w (af #[J s5,D A5 l5.length c5,D D5 m5.length e5]) t 1000)(K:k<=400000):
 aj ae 14 #[af #[J s1,D A1 l1.length c1,D D1 m1.length e1,J s2,D A2 l2.length c2,D D2 m2.length e2,J s3,D A3 l3.length c3,D D3 m3.length e3,J s4,D A4 l4.length c4,D D4 m4.length e4,J s5,D A5 l5.length c5,D D5 m5.length e5,H I fi,H I mo],v] w λx z=>x=aw (J (decide (e<t)))/\V w z:=by
 have j:=G (Pc.Ab e t);obtain⟨A,rfl,⟨g,r,c6,p⟩,⟨i,s,d6,o⟩⟩:=(bF k).form h;obtain⟨u,u0,F⟩:=A;simp only at p o;subst p o;have a:Fr w (af #[J u,D g r c6,D i s d6]) e k:=h;clear h;obtain⟨y,l⟩:∃y,Y (E.cI e t=y):=⟨_,G rfl⟩;rw[l.out]at j;show aj ae 14 #[af #[J s1,D A1 l1.length c1,D D1 m1.length e1,J s2,D A2 l2.length c2,D D2 m2.length e2,J s3,D A3 l3.length c3,D D3 m3.length e3,J s4,D A4 l4.length c4,D D4 m4.length e4,J s5,D A5 l5.length c5,D D5 m5.length e5,H I fi,H I mo],af #[J u,D g r c6,D i s d6]] w _;go_enter func14,ntmps14;go_wp2_with fail;generalize q:ah (ah w _) _=B at*;obtain⟨b,d,f⟩:=br q;clear q;replace a:=a.up b;replace c:=c.up b;have m:=d.dg;have n:=f.c3;go_wp2_with fail
 with_reducible refine(f9 a c (by omega) (by omega)).mono ?_
 rintro e C ⟨rfl,u1⟩;revert b d f a c m n;revert u1;refine eR ?_;intro b d f a c m n;rw[l.out];go_wp2;go_ret;exact⟨by rw[<-j.out];rfl,b⟩
theorem pT {g:Nat}{cs:Array W}(k:Nat)(a:k≠g):(w.setRow g cs).heap[k]? =w.heap[k]? :=by
 simp only[World.setRow,Array.getElem?_modify];rw[if_neg (Ne.symm a)]
theorem uP (w:O)(g:Nat)(cs:Array W):w.grownBy (w.setRow g cs) (U g):=
 ⟨rfl,rfl,rfl,by simp,λk _ b=>pT k (λa=>b (by rw[a]))⟩
theorem Ed {g:Nat}(hb:Bx T w g old)(l:old.all f7=true):Bs T g w (w.setRow g cs.toArray) old cs:=by
 have n:Bx T (w.setRow g cs.toArray) g cs:=setRow_heap w g old.toArray cs.toArray T (0,0) hb;refine⟨hb,n,⟨by simp,λp r a=> ?_⟩,uP w g _,λm e=>(pT _ m).trans e,λo i=>o.grown (uP w g _) (λk d=>by cases d;exact i)⟩
 by_cases c:p.block=g
 .exfalso;have f:w.heap[p.block]? =U (ao old.toArray T (0,0)):=by rw[c];exact hb
  unfold World.cell? at a;rw[f]at a;simp only at a
  split at a
  .cases a
  .rw[List.getElem?_toArray]at a;obtain⟨j,q⟩:=List.getElem?_eq_some_iff.1 a;have b:=List.all_eq_true.1 l _ (cq j);rw[q]at b;cases b
 .unfold World.cell? at a|-;rw[pT _ c];exact a
theorem nu {S:an}{o:bt}{a:a6}{K:a6->O->Prop}{Q:Exit->a6->O->Prop}{g:Nat}(x y:Operand)(f:o.op=Op.store S x y)(i:a.eval x=az (U ⟨g,0,none⟩))(j:a.eval y=af cs.toArray)(hb:Bx T w g old)(c:(Tryz.prog.info? S).map (·.size)=U cs.length)(d:old.length=cs.length)(h1:cs.all (·.oneCell')=true)(e:old.all f7=true)(h:∀b,Bs T g w b old cs->K (a.put o.dst undef) b):Oper.wp ae o a w K Q:=
 wp_store_row S x y f g cs.toArray i j T old.toArray hb (by simpa using c) (by simpa using d) (by simpa using h1) (h _ (Ed hb e))
theorem uQ (w:O):(ct 55).run ae w= .ok true w:=by kernel_rfl
theorem uR (w:O):(ci 55).run ae w= .ok 17 w:=by kernel_rfl
def Ee (b c d f g:Rat)(w:O)(e:aO)(a:O):Prop:= ∃(i j k l m n o p q r:Option am) (c1 c2 c3 c4 c5 s t u v x:Nat),e=aw (af #[J (E.aB b.num),D i (E.words b.num.natAbs).length c1,D n (E.words b.den).length s,J (E.aB c.num),D j (E.words c.num.natAbs).length c2,D o (E.words c.den).length t,J (E.aB d.num),D k (E.words d.num.natAbs).length c3,D p (E.words d.den).length u,J (E.aB f.num),D l (E.words f.num.natAbs).length c4,D q (E.words f.den).length v,J (E.aB g.num),D m (E.words g.num.natAbs).length c5,D r (E.words g.den).length x,H I 16,H I 100])/\(Ws a (D i (E.words b.num.natAbs).length c1) (E.words b.num.natAbs)/\Ws a (D n (E.words b.den).length s) (E.words b.den)/\Ws a (D j (E.words c.num.natAbs).length c2) (E.words c.num.natAbs)/\Ws a (D o (E.words c.den).length t) (E.words c.den)/\Ws a (D k (E.words d.num.natAbs).length c3) (E.words d.num.natAbs)/\Ws a (D p (E.words d.den).length u) (E.words d.den)/\Ws a (D l (E.words f.num.natAbs).length c4) (E.words f.num.natAbs)/\Ws a (D q (E.words f.den).length v) (E.words f.den)/\Ws a (D m (E.words g.num.natAbs).length c5) (E.words g.num.natAbs)/\Ws a (D r (E.words g.den).length x) (E.words g.den))/\V w a
theorem gq {n:Nat}(h:Ws w (D A n c) l):n=l.length:=by
 obtain⟨B,b,a⟩:=h.form;cases a;rfl
theorem Ef {U1 U2 U3 U4 U5:Rat}(S:Y (((1:Int):Rat)/((1000:Int):Rat)=U1))(T:Y (((9:Int):Rat)/((10:Int):Rat)=U2))(U:Y (((1:Int):Rat)/((5:Int):Rat)=U3))(V:Y (((5:Int):Rat)=U4))(W:Y (((1:Int):Rat)/((1000000:Int):Rat)=U5))(w:O):aj ae 46 #[] w (Ee U1 U2 U3 U4 U5 w):=by
 go_enter func46,ntmps46;go_wp2_with fail;generalize R:ah w _=aE at*;obtain⟨g,b⟩:=aC R;clear R;have m:=b.dg;have o:=b.free;go_wp2_with fail
 with_reducible refine(nf (n:=1) (d:=1000) (by omega) (by omega) _).mono ?_
 rintro Q aF ⟨ay,rfl,a,u1⟩;revert g b m;refine bo u1 ?_;intro g b m;replace o:=b.free;clear u1;rw[S.out]at a;obtain⟨aK,aP,rfl,a,ad⟩:=a;obtain⟨r,aU,B,rfl⟩:=a.shape;obtain⟨s,aV,C,rfl⟩:=ad.shape;go_wp2_with fail
 with_reducible refine(nf (n:=9) (d:=10) (by omega) (by omega) _).mono ?_
 rintro Q aG ⟨az,rfl,f,u2⟩;revert g b m a ad;refine b8 u2 ?_;intro g b m a ad;replace o:=b.free;clear u2;rw[T.out]at f;obtain⟨aL,aQ,rfl,f,bj⟩:=f;obtain⟨t,aW,cb,rfl⟩:=f.shape;obtain⟨u,aX,F,rfl⟩:=bj.shape;go_wp2_with fail
 with_reducible refine(nf (n:=1) (d:=5) (by omega) (by omega) _).mono ?_
 rintro Q aH ⟨aA,rfl,p,u3⟩;revert g b m a ad f bj;refine bS u3 ?_;intro g b m a ad f bj;replace o:=b.free;clear u3;rw[U.out]at p;obtain⟨aM,aR,rfl,p,pd⟩:=p;obtain⟨Ap,aY,G,rfl⟩:=p.shape;obtain⟨v,aZ,K,rfl⟩:=pd.shape;go_wp2_with fail
 with_reducible refine(fd (n:=5) (by omega) _).mono ?_
 rintro Q aI ⟨aB,rfl,q,u4⟩;revert g b m a ad f bj p pd;refine bE u4 ?_;intro g b m a ad f bj p pd;replace o:=b.free;clear u4;rw[V.out]at q;obtain⟨aN,aS,rfl,q,k⟩:=q;obtain⟨x,nq,L,rfl⟩:=q.shape;obtain⟨y,a1,M,rfl⟩:=k.shape;go_wp2_with fail
 with_reducible refine(nf (n:=1) (d:=1000000) (by omega) (by omega) _).mono ?_
 rintro Q X ⟨aD,rfl,j,u5⟩;revert g b m a ad f bj p pd q k;refine bC u5 ?_;intro g b m a ad f bj p pd q k;replace o:=b.free;clear u5;rw[W.out]at j;obtain⟨aO,aT,rfl,j,l⟩:=j;obtain⟨z,a2,N,rfl⟩:=j.shape;obtain⟨A,a3,P,rfl⟩:=l.shape;obtain rfl:=gq a;obtain rfl:=gq ad;obtain rfl:=gq f;obtain rfl:=gq bj;obtain rfl:=gq p;obtain rfl:=gq pd;obtain rfl:=gq q;obtain rfl:=gq k;obtain rfl:=gq j;obtain rfl:=gq l;go_wp2_with fail;have e:=Kw.store (i:=0) (c:=(J false)) b rfl trivial (J (E.aB U1.num));revert a ad f bj p pd q k j l;refine bw e ?_;intro a ad f bj p pd q k j l;replace g:=b.us 0 (J (E.aB U1.num)) g;replace b:=b.set 0 (J (E.aB U1.num));clear e;generalize ag X _ _=Z at*;have e:=Kw.store (i:=1) (c:=(D none 0 0)) b rfl trivial (D r (E.words U1.num.natAbs).length B);revert a ad f bj p pd q k j l;refine bw e ?_;intro a ad f bj p pd q k j l;replace g:=b.us 1 (D r (E.words U1.num.natAbs).length B) g;replace b:=b.set 1 (D r (E.words U1.num.natAbs).length B);clear e;generalize ag Z _ _=aa at*;have e:=Kw.store (i:=2) (c:=(D none 0 0)) b rfl trivial (D s (E.words U1.den).length C);revert a ad f bj p pd q k j l;refine bw e ?_;intro a ad f bj p pd q k j l;replace g:=b.us 2 (D s (E.words U1.den).length C) g;replace b:=b.set 2 (D s (E.words U1.den).length C);clear e;generalize ag aa _ _=an at*;have e:=Kw.store (i:=3) (c:=(J false)) b rfl trivial (J (E.aB U2.num));revert a ad f bj p pd q k j l;refine bw e ?_;intro a ad f bj p pd q k j l;replace g:=b.us 3 (J (E.aB U2.num)) g;replace b:=b.set 3 (J (E.aB U2.num));clear e;generalize ag an _ _=ao at*;have e:=Kw.store (i:=4) (c:=(D none 0 0)) b rfl trivial (D t (E.words U2.num.natAbs).length cb);revert a ad f bj p pd q k j l;refine bw e ?_;intro a ad f bj p pd q k j l;replace g:=b.us 4 (D t (E.words U2.num.natAbs).length cb) g;replace b:=b.set 4 (D t (E.words U2.num.natAbs).length cb);clear e;generalize ag ao _ _=aq at*;have e:=Kw.store (i:=5) (c:=(D none 0 0)) b rfl trivial (D u (E.words U2.den).length F);revert a ad f bj p pd q k j l;refine bw e ?_;intro a ad f bj p pd q k j l;replace g:=b.us 5 (D u (E.words U2.den).length F) g;replace b:=b.set 5 (D u (E.words U2.den).length F);clear e;generalize ag aq _ _=ar at*;have e:=Kw.store (i:=6) (c:=(J false)) b rfl trivial (J (E.aB U3.num));revert a ad f bj p pd q k j l;refine bw e ?_;intro a ad f bj p pd q k j l;replace g:=b.us 6 (J (E.aB U3.num)) g;replace b:=b.set 6 (J (E.aB U3.num));clear e;generalize ag ar _ _=au at*;have e:=Kw.store (i:=7) (c:=(D none 0 0)) b rfl trivial (D Ap (E.words U3.num.natAbs).length G);revert a ad f bj p pd q k j l;refine bw e ?_;intro a ad f bj p pd q k j l;replace g:=b.us 7 (D Ap (E.words U3.num.natAbs).length G) g;replace b:=b.set 7 (D Ap (E.words U3.num.natAbs).length G);clear e;generalize ag au _ _=av at*;have e:=Kw.store (i:=8) (c:=(D none 0 0)) b rfl trivial (D v (E.words U3.den).length K);revert a ad f bj p pd q k j l;refine bw e ?_;intro a ad f bj p pd q k j l;replace g:=b.us 8 (D v (E.words U3.den).length K) g;replace b:=b.set 8 (D v (E.words U3.den).length K);clear e;generalize ag av _ _=aw at*;have e:=Kw.store (i:=9) (c:=(J false)) b rfl trivial (J (E.aB U4.num));revert a ad f bj p pd q k j l;refine bw e ?_;intro a ad f bj p pd q k j l;replace g:=b.us 9 (J (E.aB U4.num)) g;replace b:=b.set 9 (J (E.aB U4.num));clear e;generalize ag aw _ _=ax at*;have e:=Kw.store (i:=10) (c:=(D none 0 0)) b rfl trivial (D x (E.words U4.num.natAbs).length L);revert a ad f bj p pd q k j l;refine bw e ?_;intro a ad f bj p pd q k j l;replace g:=b.us 10 (D x (E.words U4.num.natAbs).length L) g;replace b:=b.set 10 (D x (E.words U4.num.natAbs).length L);clear e;generalize ag ax _ _=ab at*;have e:=Kw.store (i:=11) (c:=(D none 0 0)) b rfl trivial (D y (E.words U4.den).length M);revert a ad f bj p pd q k j l;refine bw e ?_;intro a ad f bj p pd q k j l;replace g:=b.us 11 (D y (E.words U4.den).length M) g;replace b:=b.set 11 (D y (E.words U4.den).length M);clear e;generalize ag ab _ _=af at*;have e:=Kw.store (i:=12) (c:=(J false)) b rfl trivial (J (E.aB U5.num));revert a ad f bj p pd q k j l;refine bw e ?_;intro a ad f bj p pd q k j l;replace g:=b.us 12 (J (E.aB U5.num)) g;replace b:=b.set 12 (J (E.aB U5.num));clear e;generalize ag af _ _=ai at*;have e:=Kw.store (i:=13) (c:=(D none 0 0)) b rfl trivial (D z (E.words U5.num.natAbs).length N);revert a ad f bj p pd q k j l;refine bw e ?_;intro a ad f bj p pd q k j l;replace g:=b.us 13 (D z (E.words U5.num.natAbs).length N) g;replace b:=b.set 13 (D z (E.words U5.num.natAbs).length N);clear e;generalize ag ai _ _=ak at*;have e:=Kw.store (i:=14) (c:=(D none 0 0)) b rfl trivial (D A (E.words U5.den).length P);revert a ad f bj p pd q k j l;refine bw e ?_;intro a ad f bj p pd q k j l;replace g:=b.us 14 (D A (E.words U5.den).length P) g;replace b:=b.set 14 (D A (E.words U5.den).length P);clear e;generalize ag ak _ _=al at*;have e:=Kw.store (i:=15) (c:=(H I 0)) b rfl trivial (H I 16);revert a ad f bj p pd q k j l;refine bw e ?_;intro a ad f bj p pd q k j l;replace g:=b.us 15 (H I 16) g;replace b:=b.set 15 (H I 16);clear e;generalize ag al _ _=am at*;have e:=Kw.store (i:=16) (c:=(H I 0)) b rfl trivial (H I 100);revert a ad f bj p pd q k j l;refine bw e ?_;intro a ad f bj p pd q k j l;replace g:=b.us 16 (H I 100) g;replace b:Bx 55 _ _ [J (E.aB U1.num),D r (E.words U1.num.natAbs).length B,D s (E.words U1.den).length C,J (E.aB U2.num),D t (E.words U2.num.natAbs).length cb,D u (E.words U2.den).length F,J (E.aB U3.num),D Ap (E.words U3.num.natAbs).length G,D v (E.words U3.den).length K,J (E.aB U4.num),D x (E.words U4.num.natAbs).length L,D y (E.words U4.den).length M,J (E.aB U5.num),D z (E.words U5.num.natAbs).length N,D A (E.words U5.den).length P,H I 16,H I 100]:=b.set 16 (H I 100);clear e;generalize ag am _ _=aJ at*;replace m:=b.dg;exact a4 (cl rfl rfl uQ uR b rfl) rfl ⟨_,_,_,_,_,_,_,_,_,_,_,_,_,_,_,_,_,_,_,_,rfl,⟨a,ad,f,bj,p,pd,q,k,j,l⟩,g⟩
theorem Eg :aj ae 25 #[af #[J s1,D A1 l1.length c1,D D1 m1.length e1,J s2,D A2 l2.length c2,D D2 m2.length e2,J s3,D A3 l3.length c3,D D3 m3.length e3,J s4,D A4 l4.length c4,D D4 m4.length e4,J s5,D A5 l5.length c5,D D5 m5.length e5,H I fi,H I mo]] w λe A=>e=aw (af #[J s1,D A1 l1.length c1,D D1 m1.length e1,J s2,D A2 l2.length c2,D D2 m2.length e2,J s3,D A3 l3.length c3,D D3 m3.length e3,J s4,D A4 l4.length c4,D D4 m4.length e4,J s5,D A5 l5.length c5,D D5 m5.length e5,H I fi,H I mo])/\V w A:=by
 go_enter func25,ntmps25;go_wp2_with fail;generalize M:ah (ah w _) _=L at*;obtain⟨b,d,a⟩:=br M;clear M;have ar:=d.dg;have av:=a.dg;have G:=a.free;obtain⟨g,j,r,s,t,u,v,x,y,z,k,l,m,n,o,p,q⟩:=ar;have E:=av;revert b d a g j r s t u v x y;refine au (V.refl L).drew ?_;intro b d a g j r s t u v x y;revert z k l m n o p q;refine b9 (V.refl L).drew ?_;intro z k l m n o p q;have E:=a.dg;have G:=a.free;refine aZ ?_;refine a3 (S:=λA=>V w A/\A.cell? ⟨w.heap.size,0,none⟩=U (J s1)/\A.cell? ⟨w.heap.size,1,none⟩=U (D A1 l1.length c1)/\A.cell? ⟨w.heap.size,2,none⟩=U (D D1 m1.length e1)/\A.cell? ⟨w.heap.size,3,none⟩=U (J s2)/\A.cell? ⟨w.heap.size,4,none⟩=U (D A2 l2.length c2)/\A.cell? ⟨w.heap.size,5,none⟩=U (D D2 m2.length e2)/\A.cell? ⟨w.heap.size,6,none⟩=U (J s3)/\A.cell? ⟨w.heap.size,7,none⟩=U (D A3 l3.length c3)/\A.cell? ⟨w.heap.size,8,none⟩=U (D D3 m3.length e3)/\A.cell? ⟨w.heap.size,9,none⟩=U (J s4)/\A.cell? ⟨w.heap.size,10,none⟩=U (D A4 l4.length c4)/\A.cell? ⟨w.heap.size,11,none⟩=U (D D4 m4.length e4)/\A.cell? ⟨w.heap.size,12,none⟩=U (J s5)/\A.cell? ⟨w.heap.size,13,none⟩=U (D A5 l5.length c5)/\A.cell? ⟨w.heap.size,14,none⟩=U (D D5 m5.length e5)/\A.cell? ⟨w.heap.size,15,none⟩=U (H I fi)/\A.cell? ⟨w.heap.size,16,none⟩=U (H I mo)) (by kernel_rfl) ?_ (λC=> ?_)
 .with_reducible exact⟨b,g,j,r,s,t,u,v,x,y,z,k,l,m,n,o,p,q⟩
 refine aa 0 ?_;refine aa 1 ?_;refine aa 3 ?_;refine aa 4 ?_;refine aa 6 ?_;refine aa 7 ?_;refine aa 9 ?_;refine aa 10 ?_;refine aa 12 ?_;refine aa 13 ?_;refine aa 15 ?_;refine aa 16 ?_;refine aa 17 ?_;refine aa 18 ?_;refine bZ 2 (λF B=> ?_);go_simp
 (first
   |(go_at_call 26
     with_reducible refine(iY _ _ _ _ _ _ _ _).mono ?_
     rintro e K ⟨rfl,u1⟩;revert b d a g j r s t u v x y;refine au u1 ?_;intro b d a g j r s t u v x y;revert z k l m n o p q E;refine bE u1 ?_;intro z k l m n o p q E
     replace G:=a.free;clear u1))
 try go_wp2_with fail
 try clear C
 refine B.out _ _ ?_ (λC=> ?_)
 .with_reducible exact⟨b,g,j,r,s,t,u,v,x,y,z,k,l,m,n,o,p,q⟩
 clear B F
 try simp only[bc,bg]
 refine bZ 5 (λF B=> ?_);go_simp
 (first
   |(go_at_call 26
     with_reducible refine(iY _ _ _ _ _ _ _ _).mono ?_
     rintro e K ⟨rfl,u1⟩;revert b d a g j r s t u v x y;refine au u1 ?_;intro b d a g j r s t u v x y;revert z k l m n o p q E;refine bE u1 ?_;intro z k l m n o p q E
     replace G:=a.free;clear u1))
 try go_wp2_with fail
 try clear C
 refine B.out _ _ ?_ (λC=> ?_)
 .with_reducible exact⟨b,g,j,r,s,t,u,v,x,y,z,k,l,m,n,o,p,q⟩
 clear B F
 try simp only[bc,bg]
 refine bZ 8 (λF B=> ?_);go_simp
 (first
   |(go_at_call 26
     with_reducible refine(iY _ _ _ _ _ _ _ _).mono ?_
     rintro e K ⟨rfl,u1⟩;revert b d a g j r s t u v x y;refine au u1 ?_;intro b d a g j r s t u v x y;revert z k l m n o p q E;refine bE u1 ?_;intro z k l m n o p q E
     replace G:=a.free;clear u1))
 try go_wp2_with fail
 try clear C
 refine B.out _ _ ?_ (λC=> ?_)
 .with_reducible exact⟨b,g,j,r,s,t,u,v,x,y,z,k,l,m,n,o,p,q⟩
 clear B F
 try simp only[bc,bg]
 refine bZ 11 (λF B=> ?_);go_simp
 (first
   |(go_at_call 26
     with_reducible refine(iY _ _ _ _ _ _ _ _).mono ?_
     rintro e K ⟨rfl,u1⟩;revert b d a g j r s t u v x y;refine au u1 ?_;intro b d a g j r s t u v x y;revert z k l m n o p q E;refine bE u1 ?_;intro z k l m n o p q E
     replace G:=a.free;clear u1))
 try go_wp2_with fail
 try clear C
 refine B.out _ _ ?_ (λC=> ?_)
 .with_reducible exact⟨b,g,j,r,s,t,u,v,x,y,z,k,l,m,n,o,p,q⟩
 clear B F
 try simp only[bc,bg]
 refine bZ 14 (λF B=> ?_);go_simp
 (first
   |(go_at_call 26
     with_reducible refine(iY _ _ _ _ _ _ _ _).mono ?_
     rintro e K ⟨rfl,u1⟩;revert b d a g j r s t u v x y;refine au u1 ?_;intro b d a g j r s t u v x y;revert z k l m n o p q E;refine bE u1 ?_;intro z k l m n o p q E
     replace G:=a.free;clear u1))
 try go_wp2_with fail
 try clear C
 refine B.out _ _ ?_ (λC=> ?_)
 .with_reducible exact⟨b,g,j,r,s,t,u,v,x,y,z,k,l,m,n,o,p,q⟩
 clear B F
 try simp only[bc,bg]
 refine aa 19 ?_;refine bZ 20 (λF B=> ?_);go_simp;skip
 try go_wp2_with fail
 try clear C
 refine B.out _ _ ?_ (λC=> ?_)
 ·(first|with_reducible exact⟨b,g,j,r,s,t,u,v,x,y,z,k,l,m,n,o,p,q⟩|((try simp only[<-World.setCell_drew]);first|with_reducible exact⟨(us (us (us (us (us (us (us (us (us (us (us (us (us (us (us (us (us b))))))))))))))))),(cf (cf (cf (cf (cf (cf (cf (cf (cf (cf (cf (cf (cf (cf (cf (cf (cf g))))))))))))))))),(cf (cf (cf (cf (cf (cf (cf (cf (cf (cf (cf (cf (cf (cf (cf (cf (cf j))))))))))))))))),(cf (cf (cf (cf (cf (cf (cf (cf (cf (cf (cf (cf (cf (cf (cf (cf (cf r))))))))))))))))),(cf (cf (cf (cf (cf (cf (cf (cf (cf (cf (cf (cf (cf (cf (cf (cf (cf s))))))))))))))))),(cf (cf (cf (cf (cf (cf (cf (cf (cf (cf (cf (cf (cf (cf (cf (cf (cf t))))))))))))))))),(cf (cf (cf (cf (cf (cf (cf (cf (cf (cf (cf (cf (cf (cf (cf (cf (cf u))))))))))))))))),(cf (cf (cf (cf (cf (cf (cf (cf (cf (cf (cf (cf (cf (cf (cf (cf (cf v))))))))))))))))),(cf (cf (cf (cf (cf (cf (cf (cf (cf (cf (cf (cf (cf (cf (cf (cf (cf x))))))))))))))))),(cf (cf (cf (cf (cf (cf (cf (cf (cf (cf (cf (cf (cf (cf (cf (cf (cf y))))))))))))))))),(cf (cf (cf (cf (cf (cf (cf (cf (cf (cf (cf (cf (cf (cf (cf (cf (cf z))))))))))))))))),(cf (cf (cf (cf (cf (cf (cf (cf (cf (cf (cf (cf (cf (cf (cf (cf (cf k))))))))))))))))),(cf (cf (cf (cf (cf (cf (cf (cf (cf (cf (cf (cf (cf (cf (cf (cf (cf l))))))))))))))))),(cf (cf (cf (cf (cf (cf (cf (cf (cf (cf (cf (cf (cf (cf (cf (cf (cf m))))))))))))))))),(cf (cf (cf (cf (cf (cf (cf (cf (cf (cf (cf (cf (cf (cf (cf (cf (cf n))))))))))))))))),(cf (cf (cf (cf (cf (cf (cf (cf (cf (cf (cf (cf (cf (cf (cf (cf (cf o))))))))))))))))),(cf (cf (cf (cf (cf (cf (cf (cf (cf (cf (cf (cf (cf (cf (cf (cf (cf p))))))))))))))))),(cf (cf (cf (cf (cf (cf (cf (cf (cf (cf (cf (cf (cf (cf (cf (cf (cf q)))))))))))))))))⟩))
 clear B F
 try simp only[bc,bg]
 refine aW (by kernel_rfl) ?_ _;refine aX ?_;clear C;have f:=Kw.store (i:=0) (c:=(J false)) a rfl trivial (J s1);replace d:=d.fr (w.heap.size+1) 0 (J s1);replace b:=a.us 0 (J s1) b;replace a:=a.set 0 (J s1);clear f;generalize ag K _ _=N at*;have f:=Kw.store (i:=1) (c:=(D none 0 0)) a rfl trivial (D A1 l1.length c1);replace d:=d.fr (w.heap.size+1) 1 (D A1 l1.length c1);replace b:=a.us 1 (D A1 l1.length c1) b;replace a:=a.set 1 (D A1 l1.length c1);clear f;generalize ag N _ _=P at*;have f:=Kw.store (i:=2) (c:=(D none 0 0)) a rfl trivial (D D1 m1.length e1);replace d:=d.fr (w.heap.size+1) 2 (D D1 m1.length e1);replace b:=a.us 2 (D D1 m1.length e1) b;replace a:=a.set 2 (D D1 m1.length e1);clear f;generalize ag P _ _=Z at*;have f:=Kw.store (i:=3) (c:=(J false)) a rfl trivial (J s2);replace d:=d.fr (w.heap.size+1) 3 (J s2);replace b:=a.us 3 (J s2) b;replace a:=a.set 3 (J s2);clear f;generalize ag Z _ _=ab at*;have f:=Kw.store (i:=4) (c:=(D none 0 0)) a rfl trivial (D A2 l2.length c2);replace d:=d.fr (w.heap.size+1) 4 (D A2 l2.length c2);replace b:=a.us 4 (D A2 l2.length c2) b;replace a:=a.set 4 (D A2 l2.length c2);clear f;generalize ag ab _ _=ai at*;have f:=Kw.store (i:=5) (c:=(D none 0 0)) a rfl trivial (D D2 m2.length e2);replace d:=d.fr (w.heap.size+1) 5 (D D2 m2.length e2);replace b:=a.us 5 (D D2 m2.length e2) b;replace a:=a.set 5 (D D2 m2.length e2);clear f;generalize ag ai _ _=ak at*;have f:=Kw.store (i:=6) (c:=(J false)) a rfl trivial (J s3);replace d:=d.fr (w.heap.size+1) 6 (J s3);replace b:=a.us 6 (J s3) b;replace a:=a.set 6 (J s3);clear f;generalize ag ak _ _=al at*;have f:=Kw.store (i:=7) (c:=(D none 0 0)) a rfl trivial (D A3 l3.length c3);replace d:=d.fr (w.heap.size+1) 7 (D A3 l3.length c3);replace b:=a.us 7 (D A3 l3.length c3) b;replace a:=a.set 7 (D A3 l3.length c3);clear f;generalize ag al _ _=an at*;have f:=Kw.store (i:=8) (c:=(D none 0 0)) a rfl trivial (D D3 m3.length e3);replace d:=d.fr (w.heap.size+1) 8 (D D3 m3.length e3);replace b:=a.us 8 (D D3 m3.length e3) b;replace a:=a.set 8 (D D3 m3.length e3);clear f;generalize ag an _ _=ao at*;have f:=Kw.store (i:=9) (c:=(J false)) a rfl trivial (J s4);replace d:=d.fr (w.heap.size+1) 9 (J s4);replace b:=a.us 9 (J s4) b;replace a:=a.set 9 (J s4);clear f;generalize ag ao _ _=aq at*;have f:=Kw.store (i:=10) (c:=(D none 0 0)) a rfl trivial (D A4 l4.length c4);replace d:=d.fr (w.heap.size+1) 10 (D A4 l4.length c4);replace b:=a.us 10 (D A4 l4.length c4) b;replace a:=a.set 10 (D A4 l4.length c4);clear f;generalize ag aq _ _=Q at*;have f:=Kw.store (i:=11) (c:=(D none 0 0)) a rfl trivial (D D4 m4.length e4);replace d:=d.fr (w.heap.size+1) 11 (D D4 m4.length e4);replace b:=a.us 11 (D D4 m4.length e4) b;replace a:=a.set 11 (D D4 m4.length e4);clear f;generalize ag Q _ _=R at*;have f:=Kw.store (i:=12) (c:=(J false)) a rfl trivial (J s5);replace d:=d.fr (w.heap.size+1) 12 (J s5);replace b:=a.us 12 (J s5) b;replace a:=a.set 12 (J s5);clear f;generalize ag R _ _=T at*;have f:=Kw.store (i:=13) (c:=(D none 0 0)) a rfl trivial (D A5 l5.length c5);replace d:=d.fr (w.heap.size+1) 13 (D A5 l5.length c5);replace b:=a.us 13 (D A5 l5.length c5) b;replace a:=a.set 13 (D A5 l5.length c5);clear f;generalize ag T _ _=W at*;have f:=Kw.store (i:=14) (c:=(D none 0 0)) a rfl trivial (D D5 m5.length e5);replace d:=d.fr (w.heap.size+1) 14 (D D5 m5.length e5);replace b:=a.us 14 (D D5 m5.length e5) b;replace a:=a.set 14 (D D5 m5.length e5);clear f;generalize ag W _ _=X at*;have f:=Kw.store (i:=15) (c:=(H I 0)) a rfl trivial (H I fi);replace d:=d.fr (w.heap.size+1) 15 (H I fi);replace b:=a.us 15 (H I fi) b;replace a:=a.set 15 (H I fi);clear f;generalize ag X _ _=Y at*;have f:=Kw.store (i:=16) (c:=(H I 0)) a rfl trivial (H I mo);replace d:=d.fr (w.heap.size+1) 16 (H I mo);replace b:=a.us 16 (H I mo) b;replace a:Bx 55 _ _ [J s1,D A1 l1.length c1,D D1 m1.length e1,J s2,D A2 l2.length c2,D D2 m2.length e2,J s3,D A3 l3.length c3,D D3 m3.length e3,J s4,D A4 l4.length c4,D D4 m4.length e4,J s5,D A5 l5.length c5,D D5 m5.length e5,H I fi,H I mo]:=a.set 16 (H I mo);clear f;generalize ag Y _ _=ax at*;clear g j r s t u v x y z k l m n o p q E;obtain⟨g,j,r,s,t,u,v,x,y,z,k,l,m,n,o,p,q⟩:=d.dg;have E:=a.dg;go_wp2_with fail;exact a4 (cl rfl rfl uQ uR a rfl) rfl ⟨rfl,b⟩
theorem gW (k:Nat)(g:K=(k:Int))(j:k<=1000):aj ae 17 #[af #[J s,D A l.length c,D ai m.length d],H I K] w λe b=> ∃t,e=aw (J t)/\Y (t=false->l.length<=k/\m.length<=k)/\V w b:=by
 subst g
 by_cases f:(k:Int)<(l.length:Int)\/(k:Int)<(m.length:Int)
 .refine(oK f (by omega)).mono ?_;rintro e b ⟨rfl,a⟩;exact⟨true,rfl,G (λi=>by cases i),a⟩
 .refine(oJ (by omega) (by omega) (by omega)).mono ?_;rintro e b ⟨rfl,a⟩;exact⟨false,rfl,G (λ_=>⟨by omega,by omega⟩),a⟩
theorem Eh (k:Nat)(i:K=(k:Int))(g:k<=1000):aj ae 16 #[af #[J s1,D A1 l1.length c1,D D1 m1.length e1,J s2,D A2 l2.length c2,D D2 m2.length e2,J s3,D A3 l3.length c3,D D3 m3.length e3,J s4,D A4 l4.length c4,D D4 m4.length e4,J s5,D A5 l5.length c5,D D5 m5.length e5,H I fi,H I mo],H I K] w λe E=> ∃t,e=aw (J t)/\Y (t=false->(l1.length<=k/\m1.length<=k)/\(l2.length<=k/\m2.length<=k)/\(l3.length<=k/\m3.length<=k)/\(l4.length<=k/\m4.length<=k)/\(l5.length<=k/\m5.length<=k))/\V w E:=by
 have f:=G i;clear i;go_enter func16,ntmps16;go_wp2_with fail;generalize j:ah w _=F at*;obtain⟨a,b⟩:=aC j;clear j;have c:=b.dg;go_wp2_with fail
 with_reducible refine(gW (l:=l1) (m:=m1) k f.out g).mono ?_
 rintro e L ⟨y,rfl,n,u1⟩;revert a b c;revert u1;refine bX ?_;intro a b c;cases y;rotate_left
 .skip;go_wp2;go_ret;exact⟨true,rfl,G (λd=>by cases d),a⟩
 have s:=G (n.out rfl);clear n;go_wp2_with fail
 with_reducible refine(gW (l:=l2) (m:=m2) k f.out g).mono ?_
 rintro e M ⟨z,rfl,o,u2⟩;revert a b c;revert u2;refine bX ?_;intro a b c;cases z;rotate_left
 .skip;go_wp2;go_ret;exact⟨true,rfl,G (λd=>by cases d),a⟩
 have u:=G (o.out rfl);clear o;go_wp2_with fail
 with_reducible refine(gW (l:=l3) (m:=m3) k f.out g).mono ?_
 rintro e N ⟨A,rfl,p,u3⟩;revert a b c;revert u3;refine bX ?_;intro a b c;cases A;rotate_left
 .skip;go_wp2;go_ret;exact⟨true,rfl,G (λd=>by cases d),a⟩
 have g3:=G (p.out rfl);clear p;go_wp2_with fail
 with_reducible refine(gW (l:=l4) (m:=m4) k f.out g).mono ?_
 rintro e P ⟨B,rfl,q,u4⟩;revert a b c;revert u4;refine bX ?_;intro a b c;cases B;rotate_left
 .skip;go_wp2;go_ret;exact⟨true,rfl,G (λd=>by cases d),a⟩
 have v:=G (q.out rfl);clear q;go_wp2_with fail
 with_reducible refine(gW (l:=l5) (m:=m5) k f.out g).mono ?_
 rintro e Q ⟨C,rfl,r,u5⟩;revert a b c;revert u5;refine bX ?_;intro a b c;cases C;rotate_left
 .skip;go_wp2;go_ret;exact⟨true,rfl,G (λd=>by cases d),a⟩
 have x:=G (r.out rfl);clear r;go_wp2;go_ret;exact⟨false,rfl,G (λ_=>⟨s.out,u.out,g3.out,v.out,x.out⟩),a⟩
end Go.Proofs.YtjopfpegcckllaaGreatDoor
