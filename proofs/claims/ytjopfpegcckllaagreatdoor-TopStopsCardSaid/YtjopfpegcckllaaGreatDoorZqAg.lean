/- A part of TopStops's proof: SvStepI SvTapeR SvRows. -/
import Derived.Test.YtjopfpegcckllaaGreatDoorZqAf
set_option linter.unusedVariables false
set_option linter.unusedSimpArgs false
set_option maxRecDepth 100000
set_option maxHeartbeats 12800000
open Go.Proofs.Tryz
open Go renaming World→O,Value→W,Calls→aj,Addr→am,TypeId→an,Ending→aO,sizeOf→ci,isAgg→ct,bodyPost_ret→a4,wp_region_noPanic→aZ,wp_region_held_drew→a3,wpAnyH_done→aW
open Go.Act renaming put→bg
open Go.Ending renaming returned→aw
open Go.IntKind renaming i64→I
open Go.Lib renaming hid→G
open Go.NoPanic renaming normal→aX
open Go.Obj renaming cells→ao
open Go.Proofs.Tryz renaming prog→ae
open Go.RowKit renaming Hid→Y,intOf→aI
open Go.Value renaming tuple→aY,int→H,bool→J,slice→D,agg→af,pointer→az,string→al
open Go.World renaming setCell→ag,alloc→ah
open List renaming getElem_mem→cq,getD_eq_getElem?_getD→bz,getElem?_eq_getElem→aT,take_length→co
open Nat renaming le_trans→aQ,zero_le→bn
open Option renaming some→U
variable {α:Type}{s sn:Bool}{L a ar b bits par:Int}{rs:List (List Rat)}{os:List Int}{la:List Nat}{cs done ds p ps qs y ys:List Rat}{vs:List W}{base c c1 c2 cb cc e2 f2 g i j j1 j2 k ka kd kp ky l1 l2 m2 n n1 n2 q2:Nat}{ab w w0:O}{A A1 A2 B B1 B2 D1 D2:Option am}{q t:Rat}{d u v vd vp vy:W}{e:aO}{S T:an}
namespace Go.Proofs.YtjopfpegcckllaaGreatDoor
open Go.RowKit
theorem tA {no:Nat}{code:List ba}(h:Sn dc w (D A code.length c) code)(b:k<code.length)(d:code[k].n.bd 1000000):
 aj ae 138 #[af #[D A code.length c,D B no cb,H I ar,H I par],H I (k:Int)] w λe f=>e=aw (J (Z.dP ar par k code[k]))/\V w f:=by
 by_cases a:code[k].op=1
 .exact AG h b a d
 .cases hb:Z.blank code[k].n
  .have e:Z.dP ar par k code[k]=false:=by unfold Z.dP;rw[if_neg a,if_pos hb]
   rw[e];exact AH h b a hb
  .exact AI h b a hb
def Z.c9 (code:List ba)(os:List Int)(ar par:Int):Bool:=Z.whole code.length os.length ar par&&((List.range code.length).all (λk=>Z.dP ar par k (code.getD k default))&&os.all (λo=>Z.below o code.length))
def Bj (t:Bool)(w:O)(e:aO)(b:O):Prop:= ∃a:Int,e=aw (H I a)/\(a== -1)=t/\V w b
theorem Bk {f:Nat->Bool}(b:k<n)(h:f k=false):(List.range n).all f=false:=
 Bool.eq_false_iff.2 λa=>by have:=List.all_eq_true.1 a k (List.mem_range.2 b);rw[h]at this;cases this
theorem Bl {code:List ba}(h:Sn dc w (D A code.length c) code)(e:c0 w (D B os.length cb) os)(L:Y (∀i∈code,i.n.bd 1000000))(K:db ar)(au:code.length<=1000000000)(av:os.length<=1000000000):
 aj ae 104 #[af #[D A code.length c,D B os.length cb,H I ar,H I par]] w (Bj (Z.c9 code os ar par) w):=by
 have z:=G h;clear h;go_enter func104,ntmps104;go_wp2_with fail;generalize F:ah w _=ag at*;obtain⟨b,d⟩:=aC F;clear F;replace e:=e.up b;have g:=d.c4;cases hw:Z.whole code.length os.length ar par
 .have l:Y (Z.c9 code os ar par=false):=G (by unfold Z.c9;rw[hw];rfl);go_wp2_with fail
  with_reducible refine(tf K _).mono ?_
  rintro m ai ⟨rfl,u1⟩;revert b d e g;revert u1;refine dW ?_;intro b d e g
  rw[hw];go_wp2;go_ret;exact⟨-2,rfl,by rw[l.out];rfl,b⟩
 .skip;go_wp2_with fail
  with_reducible refine(tf K _).mono ?_
  rintro m ak ⟨rfl,u2⟩;revert b d e g;revert u2;refine dW ?_;intro b d e g
  rw[hw];have p:=G (e);have n:=G d;have q:=G b;clear e;go_wp2_with fail;clear d b g
  go_loopw[3,12] (λ_ x wr=> ∃a:Nat,x=H I (a:Int)/\a<=code.length/\Y (∀k,k<a->Z.dP ar par k (code.getD k default)=true)/\Bx 43 wr w.heap.size [D A code.length c,D B os.length cb,H I ar,H I par]/\c0 wr (D B os.length cb) os/\V w wr) (λ_ x _=>code.length-(aI x).toNat)
  case atStart=>exact⟨0,rfl,bn _,G (λk t=>absurd t (by omega)),n.out,p.out,q.out⟩
  case round=>
   clear p n q;obtain⟨a,rfl,X,j,d,e,b⟩:=hrel;have g:=d.c4
   by_cases f:a<code.length
   .skip;have C:Y (code.getD a default=code[a]):=G (by rw[bz,aT f];rfl);have aa:(a:Int)<(code.length:Int):=by omega
    cases u:Z.dP ar par a code[a]
    .have l:Y (Z.c9 code os ar par=false):=G (by unfold Z.c9;rw[Bk f (by rw[C.out];exact u)];simp);go_wp2_with fail
     with_reducible refine(tA (z.out.up (cV 0) b) f (L.out _ (cq f))).mono ?_
     rintro m T ⟨rfl,u51⟩;revert d e b g;revert u51;refine dW ?_;intro d e b g
     rw[u];go_wp2;go_ret;exact⟨a,rfl,by rw[l.out];simp<;>omega,b⟩
    .skip
     have v:Y (∀k,k<a+1->Z.dP ar par k (code.getD k default)=true):=G (λk t=>by
      by_cases m:k=a
      .subst m;rw[C.out];exact u
      .exact j.out k (by omega))
     go_wp2_with fail
     with_reducible refine(tA (z.out.up (cV 0) b) f (L.out _ (cq f))).mono ?_
     rintro m T ⟨rfl,u51⟩;revert d e b g;revert u51;refine dW ?_;intro d e b g
     rw[u];clear j;go_wp2
     go_roundw
     case rel=>exact⟨a+1,by go_num,by omega,v,d,e,b⟩
     case measure=>simp[aI];omega
   .obtain rfl:a=code.length:=by omega
    have P:Y ((List.range code.length).all (λk=>Z.dP ar par k (code.getD k default))=true):=G (List.all_eq_true.2 λk t=>j.out k (List.mem_range.1 t));clear j f;have p:=G e;have n:=G d;have q:=G b;clear e;go_wp2_with fail
    go_loopw[5,24] (λ_ y wr=> ∃a:Nat,y=H I (a:Int)/\a<=os.length/\Y (∀r∈os.take a,Z.below r code.length=true)/\Bx 43 wr w.heap.size [D A code.length c,D B os.length cb,H I ar,H I par]/\c0 wr (D B os.length cb) os/\V w wr) (λ_ y _=>os.length-(aI y).toNat)
    case atStart=>exact⟨0,rfl,bn _,G (by simp),n.out,p.out,q.out⟩
    case round=>
     clear p n q d b g;obtain⟨a,rfl,X,j,d,e,b⟩:=hrel;have g:=d.c4
     by_cases f:a<os.length
     .obtain⟨al,ay,U,ao,an⟩:=e.at_ f;subst U;have S:Y (os.take (a+1)=os.take a++[os[a]]):=G (List.take_succ_eq_append_getElem f);have R:Y (os[a]∈os):=G (cq f);have aq:a+1<=os.length:=f;have Q:=G f;generalize os[a]=N at*;have aa:(a:Int)<(os.length:Int):=by omega
      have aw:(0:Int)<=(a:Int):=by omega
      have ax:((a:Int)).toNat=a:=by omega
      cases J:Z.below N code.length
      .have l:Y (Z.c9 code os ar par=false):=G (by
        unfold Z.c9;rw[show os.all (λo=>Z.below o code.length)=false from Bool.eq_false_iff.2 λW=>by have:=List.all_eq_true.1 W N R.out;rw[J]at this;cases this];simp)
       go_wp2_with(go_at_call 139;refine(fj _ _ _).mono ?_;rintro m ab ⟨rfl,rfl⟩);go_ret;exact⟨code.length,rfl,by rw[l.out];simp<;>omega,b⟩
      .have v:Y (∀r∈os.take (a+1),Z.below r code.length=true):=G (by
        intro r M;rw[S.out]at M;rcases List.mem_append.1 M with s|s
        .exact j.out r s
        .simp at s;subst s;exact J)
       go_wp2_with(go_at_call 139;refine(fj _ _ _).mono ?_;rintro m ab ⟨rfl,rfl⟩)
       go_roundw
       case rel=>exact⟨a+1,by go_num,by omega,v,d,e,b⟩
       case measure=>have:=Q.out;simp[aI];omega
     .obtain rfl:a=os.length:=by omega
      have l:Y (Z.c9 code os ar par=true):=G (by
       unfold Z.c9;have E:=j.out;rw[co]at E;rw[hw,P.out,List.all_eq_true.2 E];rfl)
      go_wp2;go_ret;exact⟨-1,rfl,by rw[l.out];rfl,b⟩
theorem pj {code:List ba}(h:Sn dc w (D A code.length c) code)(d:c0 w (D B os.length cb) os)(m:Y (∀i∈code,i.n.bd 1000000))(l:db ar)(n:code.length<=1000000000)(o:os.length<=1000000000):
 aj ae 62 #[af #[D A code.length c,D B os.length cb,H I ar,H I par]] w λe f=>e=aw (J (Z.c9 code os ar par))/\V w f:=by
 have a:V w (w.alloc (ao #[D A code.length c,D B os.length cb,H I ar,H I par] 43)):=(V.refl w).alloc _;have g:=G (h.up (cV 0) a);have k:=G (d.up a);clear h d;go_enter func62,ntmps62;go_wp2_with fail
 ((with_reducible refine(Bl g.out k.out m l n o).mono ?_))
 rintro e f ⟨p,rfl,b,q⟩;have j:Y (Z.c9 code os ar par=(p== -1)):=G b.symm;clear b;go_wp2;go_ret;exact⟨by rw[j.out];rfl,a.trans q⟩
theorem Bm (p:W)(w:O):(method 457 273 (af #[p]) "Of").run ae w= .ok (271,af #[p]) w:=by kernel_rfl
theorem Bn (p:W)(w:O):(method 457 273 (af #[p]) "Neg").run ae w= .ok (270,af #[p]) w:=by kernel_rfl
theorem Bo (p:W)(w:O):(method 457 273 (af #[p]) "Add").run ae w= .ok (267,af #[p]) w:=by kernel_rfl
theorem Bp (p:W)(w:O):(method 457 273 (af #[p]) "Sub").run ae w= .ok (274,af #[p]) w:=by kernel_rfl
theorem Bq (p:W)(w:O):(method 457 273 (af #[p]) "Mul").run ae w= .ok (269,af #[p]) w:=by kernel_rfl
theorem Br (p:W)(w:O):(method 457 273 (af #[p]) "Quo").run ae w= .ok (273,af #[p]) w:=by kernel_rfl
theorem Bt (p:W)(w:O):(method 457 273 (af #[p]) "Pow").run ae w= .ok (272,af #[p]) w:=by kernel_rfl
theorem Bu (p:W)(w:O):(method 457 273 (af #[p]) "Fits").run ae w= .ok (268,af #[p]) w:=by kernel_rfl
theorem aF.lv (h:aF k w (D A n c) qs)(o:j<qs.length):
 ∃g s B m f ai b a,A=U ⟨g,0,none⟩/\g<w.heap.size/\w.cell? ⟨g,j*3,none⟩=U (J s)/\w.cell? ⟨g,j*3+1,none⟩=U (D B m f)/\w.cell? ⟨g,j*3+2,none⟩=U (D ai b a)/\Qk k w (af #[J s,D B m f,D ai b a]) qs[j]:=by
 obtain⟨g,s,B,m,f,ai,b,a,h1,_,d,h2,e,i,l,_⟩:=aA.at_ (aR k) h o;exact⟨g,s,B,m,f,ai,b,a,h1,d,h2,e,i,l⟩
def Z.ga (i:ba)(t:Rat)(y p:List Rat):Rat:=if i.op=1 then i.n.val else if i.op=3 then y.getD i.a.toNat 0 else if i.op=4 then p.getD i.a.toNat 0 else t
theorem Bv {i:ba}
 (ay:Ws w u i.n.2.1)(aw:Ws w d i.n.2.2)(aC:i.n.bd 1000)(ax:Qw w (af #[J s,D A1 n1 c1,D D1 n2 c2]) t)(a7:E.Lq t k)(aE:aF ky w vy ys)(aD:aF kp w vp ps)
 (aA:i.op=3->0<=i.a/\i.a<ys.length)(aB:i.op=4->0<=i.a/\i.a<ps.length):
 aj ae 212 #[af #[az (U ⟨g,0,none⟩)],af #[H I i.op,H I i.a,H I i.b,J i.n.1,u,d],af #[J s,D A1 n1 c1,D D1 n2 c2,vy,vp]] w (dq (Z.ga i t ys ps) w):=by
 obtain⟨B,cy,rfl⟩:=aE.form;obtain⟨ai,X,rfl⟩:=aD.form;obtain⟨C,S,P,rfl⟩:=ay.shape;obtain⟨F,T,Q,rfl⟩:=aw.shape;obtain⟨x,a,v,e⟩:=i;simp only at*;have A:Fr w (af #[J e.1,D C S P,D F T Q]) e.val 1000:=⟨_,_,_,_,_,rfl,ay,aw,rfl,aC.1,aC.2,by omega⟩;clear ay aw
 by_cases aa:x=1
 .subst aa;have z:Y (Z.ga ⟨1,a,v,e⟩ t ys ps=e.val):=G (by unfold Z.ga;simp);rw[z.out];obtain⟨al,aM⟩:∃al,Y (e.val=al):=⟨_,G rfl⟩;rw[aM.out]at A|-;have a8:=Bm (az (U ⟨g,0,none⟩));show aj ae 212 #[af #[az (U ⟨g,0,none⟩)],af #[H I 1,H I a,H I v,J e.1,D C S P,D F T Q],af #[J s,D A1 n1 c1,D D1 n2 c2,D B ys.length cy,D ai ps.length X]] w _;go_enter func212,ntmps212;go_wp2_with fail;generalize n:ah (ah (ah (ah w _) _) _) _=ao at*;obtain⟨c,p,q,r,b⟩:=dn n;clear n;replace A:=A.up c;have L:=p.c1;have M:=q.c6;have N:=r.c5;have V:=b.c3;have aV:=b.free
  with_reducible refine(AJ A (by omega)).mono ?_
  rintro a6 a1 ⟨aZ,rfl,ak,u1⟩;revert c p q r b A L M N V;refine bw u1 ?_;intro c p q r b A L M N V
  replace aV:=b.free;clear u1;obtain⟨a2,a3,rfl,ak,aG⟩:=ak;obtain⟨aX,bd,cy,rfl⟩:=ak.shape;obtain⟨aY,bf,a5,rfl⟩:=aG.shape;go_wp2_with fail;exact di rfl rfl rfl ⟨_,_,rfl,ak,aG⟩ b trivial trivial trivial c (by omega)
 by_cases ab:x=3
 .subst ab;have R:=aA rfl;have K:Y (a.toNat<ys.length):=G (by omega);have z:Y (Z.ga ⟨3,a,v,e⟩ t ys ps=ys[a.toNat]):=G (by unfold Z.ga;simp;rw[aT K.out];rfl);rw[z.out];have aN:(0:Int)<=a:=R.1;have aO:a<(ys.length:Int):=R.2;obtain⟨av,aW,aH,aS,aP,aI,aU,aQ,aq,aR,ar,au,g3,an⟩:=aE.lv K.out;cases aq;generalize ys[a.toNat]=al at*;have aJ:=λf j l m=>(cx (o:=f) (cx (o:=j) (cx (o:=l) (cx (o:=m) ar))))
  have aK:=λf j l m=>(cx (o:=f) (cx (o:=j) (cx (o:=l) (cx (o:=m) au))))
  have aL:=λf j l m=>(cx (o:=f) (cx (o:=j) (cx (o:=l) (cx (o:=m) g3))))
  have y:=an.1;show aj ae 212 #[af #[az (U ⟨g,0,none⟩)],af #[H I 3,H I a,H I v,J e.1,D C S P,D F T Q],af #[J s,D A1 n1 c1,D D1 n2 c2,D (U ⟨av,0,none⟩) ys.length cy,D ai ps.length X]] w _;go_enter func212,ntmps212;go_wp2_with fail;generalize n:ah (ah (ah (ah w _) _) _) _=ao at*;obtain⟨c,p,q,r,b⟩:=dn n;clear n;replace y:=y.up c;have L:=p.c1;have M:=q.c6;have N:=r.c5;have V:=b.c3;exact a4 (cl rfl rfl g6 g7 b rfl) rfl ⟨_,rfl,y,c⟩
 by_cases ag:x=4
 .subst ag;have R:=aB rfl;have K:Y (a.toNat<ps.length):=G (by omega);have z:Y (Z.ga ⟨4,a,v,e⟩ t ys ps=ps[a.toNat]):=G (by unfold Z.ga;simp;rw[aT K.out];rfl);rw[z.out];have aN:(0:Int)<=a:=R.1;have aO:a<(ps.length:Int):=R.2;obtain⟨av,aW,aH,aS,aP,aI,aU,aQ,aq,aR,ar,au,g3,an⟩:=aD.lv K.out;cases aq;generalize ps[a.toNat]=al at*;have aJ:=λf j l m=>(cx (o:=f) (cx (o:=j) (cx (o:=l) (cx (o:=m) ar))))
  have aK:=λf j l m=>(cx (o:=f) (cx (o:=j) (cx (o:=l) (cx (o:=m) au))))
  have aL:=λf j l m=>(cx (o:=f) (cx (o:=j) (cx (o:=l) (cx (o:=m) g3))))
  have y:=an.1;show aj ae 212 #[af #[az (U ⟨g,0,none⟩)],af #[H I 4,H I a,H I v,J e.1,D C S P,D F T Q],af #[J s,D A1 n1 c1,D D1 n2 c2,D B ys.length cy,D (U ⟨av,0,none⟩) ps.length X]] w _;go_enter func212,ntmps212;go_wp2_with fail;generalize n:ah (ah (ah (ah w _) _) _) _=ao at*;obtain⟨c,p,q,r,b⟩:=dn n;clear n;replace y:=y.up c;have L:=p.c1;have M:=q.c6;have N:=r.c5;have V:=b.c3;exact a4 (cl rfl rfl g6 g7 b rfl) rfl ⟨_,rfl,y,c⟩
 have z:Y (Z.ga ⟨x,a,v,e⟩ t ys ps=t):=G (by unfold Z.ga;simp[aa,ab,ag]);rw[z.out];have k1:(x==1)=false:=by rw[beq_eq_false_iff_ne];exact aa
 have a9:(x==3)=false:=by rw[beq_eq_false_iff_ne];exact ab
 have bb:(x==4)=false:=by rw[beq_eq_false_iff_ne];exact ag
 clear aa ab ag aA aB;show aj ae 212 #[af #[az (U ⟨g,0,none⟩)],af #[H I x,H I a,H I v,J e.1,D C S P,D F T Q],af #[J s,D A1 n1 c1,D D1 n2 c2,D B ys.length cy,D ai ps.length X]] w _;go_enter func212,ntmps212;go_wp2_with fail;generalize n:ah (ah (ah (ah w _) _) _) _=ao at*;obtain⟨c,p,q,r,b⟩:=dn n;clear n;replace ax:=ax.up c;have L:=p.c1;have M:=q.c6;have N:=r.c5;have V:=b.c3;exact a4 (cl rfl rfl g6 g7 b rfl) rfl ⟨_,rfl,ax,c⟩
theorem aF.hold (h:aF k w (D A n c) qs)(q:j<qs.length):
 ∃g s B m f ai b a,A=U ⟨g,0,none⟩/\Qk k w (af #[J s,D B m f,D ai b a]) qs[j]/\Y (∀ab,V w ab->ab.cell? ⟨g,j*3,none⟩=U (J s)/\ab.cell? ⟨g,j*3+1,none⟩=U (D B m f)/\ab.cell? ⟨g,j*3+2,none⟩=U (D ai b a)):=by
 obtain⟨g,s,B,m,f,ai,b,a,h1,d,h2,i,l,o⟩:=h.lv q;exact⟨g,s,B,m,f,ai,b,a,h1,o,G λab e=>⟨(e.cell (p:=⟨g,j*3,none⟩) d).trans h2,(e.cell (p:=⟨g,j*3+1,none⟩) d).trans i,(e.cell (p:=⟨g,j*3+2,none⟩) d).trans l⟩⟩
theorem Bw (B:aF kd w vd done)(aI:kd<=1000)(aH:0<=a)(ha:a<done.length):
 aj ae 201 #[af #[az (U ⟨g,0,none⟩)],af #[H I 6,H I a,H I b,J sn,D A2 m2 e2,D D2 q2 f2],af #[J s,D A1 n1 c1,D D1 n2 c2,D B1 l1 j1,D B2 l2 j2],vd] w (eK (-(done.getD a.toNat 0)) true w):=by
 obtain⟨av,aD,rfl⟩:=B.form;have N:a.toNat<done.length:=by omega
 obtain⟨A,aq,T,al,ai,X,an,ak,ag,e,v⟩:=B.hold N;subst ag;have E:Y (done.getD a.toNat 0=done[a.toNat]):=G (by rw[bz,aT N];rfl);rw[E.out];generalize done[a.toNat]=ar at*;have e:=e.1.fr e.2;clear B E;obtain⟨R,F⟩:∃R,Y (-ar=R):=⟨_,G rfl⟩;rw[F.out];skip;have aJ:=Bn (az (U ⟨g,0,none⟩));go_enter func201,ntmps201;go_wp2_with fail;generalize M:ah (ah (ah (ah w _) _) _) _=K at*;obtain⟨c,q,r,t,f⟩:=dn M;clear M;replace e:=e.up c;have L:=q.c1;have Z:=r.c6;have ab:=t.c5;have ao:=f.c3;have P:=f.free;have i:=L;clear L;obtain⟨j,k,l,m,n,o⟩:=Z;have x:=ab;have C:=ao;revert c q r t f e i j k l m n;refine au (V.refl K).drew ?_;intro c q r t f e i j k l m n;revert o x;refine cR (V.refl K).drew ?_;intro o x;have C:=f.c3;have P:=f.free;refine aZ ?_;refine a3 (S:=λd=>V w d/\d.cell? ⟨w.heap.size,0,none⟩=U (az (U ⟨g,0,none⟩))/\d.cell? ⟨w.heap.size+1,0,none⟩=U (H I 6)/\d.cell? ⟨w.heap.size+1,1,none⟩=U (H I a)/\d.cell? ⟨w.heap.size+1,2,none⟩=U (H I b)/\d.cell? ⟨w.heap.size+1,3,none⟩=U (J sn)/\d.cell? ⟨w.heap.size+1,4,none⟩=U (D A2 m2 e2)/\d.cell? ⟨w.heap.size+1,5,none⟩=U (D D2 q2 f2)/\d.cell? ⟨A,a.toNat*3,none⟩=U (J aq)/\d.cell? ⟨A,a.toNat*3+1,none⟩=U (D T al ai)/\d.cell? ⟨A,a.toNat*3+2,none⟩=U (D X an ak)) (by kernel_rfl) ?_ (λy=> ?_)
 .exact⟨c,i,j,k,l,m,n,o,v.out _ c⟩
 refine aa 0 ?_;refine aa 1 ?_;refine aa 2 ?_;refine aa 3 ?_;refine aa 4 ?_;refine aa 5 ?_;refine aa 6 ?_;refine aa 7 ?_;refine bZ 8 (λz u=> ?_);go_simp
 (first
   |(go_at_call 270
     with_reducible refine(AK e (by omega)).mono ?_
     rintro aG aA ⟨ay,rfl,p,u1⟩;revert c q r t f e i j k l m n;refine au u1 ?_;intro c q r t f e i j k l m n;revert o x C;refine bo u1 ?_;intro o x C
     try(replace p:=p.up u1)
     replace P:=f.free;clear u1;rw[F.out]at p;skip;obtain⟨aB,aC,rfl,p,Q⟩:=p;obtain⟨aw,aK,cy,rfl⟩:=p.shape;obtain⟨ax,aL,aE,rfl⟩:=Q.shape))
 try go_wp2_with fail
 try clear y
 refine u.out _ _ ?_ (λy=> ?_)
 .exact⟨c,i,j,k,l,m,n,o,v.out _ c⟩
 clear u z
 try simp only[bc,bg]
 refine bZ 9 (λz u=> ?_);go_simp;skip
 try go_wp2_with fail
 try clear y
 refine u.out _ _ ?_ (λy=> ?_)
 ·(first|exact⟨c,i,j,k,l,m,n,o,v.out _ c⟩|((try simp only[<-World.setCell_drew]);first|exact⟨(us (us (us c))),(cf (cf (cf i))),(cf (cf (cf j))),(cf (cf (cf k))),(cf (cf (cf l))),(cf (cf (cf m))),(cf (cf (cf n))),(cf (cf (cf o))),v.out _ (us (us (us c)))⟩))
 clear u z
 try simp only[bc,bg]
 refine aa 10 ?_;refine aW (by kernel_rfl) ?_ _;refine aX ?_;go_wp2_with fail;exact g8 rfl rfl rfl rfl ⟨_,_,rfl,p,Q⟩ f trivial trivial trivial c (by omega)
theorem By (C:aF kd w vd done)(aK:kd<=1000)(aJ:0<=a)(ha:a<done.length)(hb: -9223372036854775808<=b/\b<=9223372036854775807):
 aj ae 201 #[af #[az (U ⟨g,0,none⟩)],af #[H I 11,H I a,H I b,J sn,D A2 m2 e2,D D2 q2 f2],af #[J s,D A1 n1 c1,D D1 n2 c2,D B1 l1 j1,D B2 l2 j2],vd] w (eK (E.gI (done.getD a.toNat 0) b) (E.fO (done.getD a.toNat 0) b) w):=by
 obtain⟨ax,aG,rfl⟩:=C.form;have R:a.toNat<done.length:=by omega
 obtain⟨B,aw,ab,aq,an,ag,ar,ao,al,e,v⟩:=C.hold R;subst al;have K:Y (done.getD a.toNat 0=done[a.toNat]):=G (by rw[bz,aT R];rfl);rw[K.out];generalize done[a.toNat]=X at*;have e:=e.1.fr e.2;clear C K;obtain⟨z,M⟩:∃z,Y (E.gI X b=z):=⟨_,G rfl⟩;rw[M.out];obtain⟨aO,L⟩:∃z,Y (E.fO X b=z):=⟨_,G rfl⟩;rw[L.out]
 have aL:=Bt (az (U ⟨g,0,none⟩));go_enter func201,ntmps201;go_wp2_with fail;generalize Q:ah (ah (ah (ah w _) _) _) _=N at*;obtain⟨c,q,r,t,f⟩:=dn Q;clear Q;replace e:=e.up c;have P:=q.c1;have ai:=r.c6;have ak:=t.c5;have av:=f.c3;have T:=f.free;have i:=P;clear P;obtain⟨j,k,l,m,n,o⟩:=ai;have x:=ak;have F:=av;revert c q r t f e i j k l m n;refine au (V.refl N).drew ?_;intro c q r t f e i j k l m n;revert o x;refine cR (V.refl N).drew ?_;intro o x;have F:=f.c3;have T:=f.free;refine aZ ?_;refine a3 (S:=λd=>V w d/\d.cell? ⟨w.heap.size,0,none⟩=U (az (U ⟨g,0,none⟩))/\d.cell? ⟨w.heap.size+1,0,none⟩=U (H I 11)/\d.cell? ⟨w.heap.size+1,1,none⟩=U (H I a)/\d.cell? ⟨w.heap.size+1,2,none⟩=U (H I b)/\d.cell? ⟨w.heap.size+1,3,none⟩=U (J sn)/\d.cell? ⟨w.heap.size+1,4,none⟩=U (D A2 m2 e2)/\d.cell? ⟨w.heap.size+1,5,none⟩=U (D D2 q2 f2)/\d.cell? ⟨B,a.toNat*3,none⟩=U (J aw)/\d.cell? ⟨B,a.toNat*3+1,none⟩=U (D ab aq an)/\d.cell? ⟨B,a.toNat*3+2,none⟩=U (D ag ar ao)) (by kernel_rfl) ?_ (λy=> ?_)
 .exact⟨c,i,j,k,l,m,n,o,v.out _ c⟩
 refine aa 0 ?_;refine aa 1 ?_;refine aa 2 ?_;refine aa 3 ?_;refine aa 4 ?_;refine aa 5 ?_;refine aa 6 ?_;refine aa 7 ?_;refine aa 8 ?_;refine aa 9 ?_;refine bZ 10 (λA u=> ?_);go_simp
 (first
   |(go_at_call 272
     with_reducible refine(AP e (by omega) hb).mono ?_
     rintro aI aC ⟨aB,rfl,p,u1⟩;revert c q r t f e i j k l m n;refine au u1 ?_;intro c q r t f e i j k l m n;revert o x F;refine bo u1 ?_;intro o x F
     try(replace p:=p.up u1)
     replace T:=f.free;clear u1;rw[M.out]at p;rw[L.out];obtain⟨aD,aE,rfl,p,Z⟩:=p;obtain⟨ay,aM,cy,rfl⟩:=p.shape;obtain⟨aA,aN,aH,rfl⟩:=Z.shape))
 try go_wp2_with fail
 try clear y
 refine u.out _ _ ?_ (λy=> ?_)
 .exact⟨c,i,j,k,l,m,n,o,v.out _ c⟩
 clear u A
 try simp only[bc,bg]
 refine aa 11 ?_;refine aa 12 ?_;refine bZ 13 (λA u=> ?_);go_simp;skip
 try go_wp2_with fail
 try clear y
 refine u.out _ _ ?_ (λy=> ?_)
 ·(first|exact⟨c,i,j,k,l,m,n,o,v.out _ c⟩|((try simp only[<-World.setCell_drew]);first|exact⟨(us (us (us c))),(cf (cf (cf i))),(cf (cf (cf j))),(cf (cf (cf k))),(cf (cf (cf l))),(cf (cf (cf m))),(cf (cf (cf n))),(cf (cf (cf o))),v.out _ (us (us (us c)))⟩))
 clear u A
 try simp only[bc,bg]
 refine aa 14 ?_;refine aW (by kernel_rfl) ?_ _;refine aX ?_;go_wp2_with fail;exact g8 rfl rfl rfl rfl ⟨_,_,rfl,p,Z⟩ f trivial trivial trivial c (by omega)
theorem Bz (B:aF kd w vd done)(a2:kd<=1000)(aY:0<=a)(ha:a<done.length)(a1:0<=b)(hb:b<done.length):
 aj ae 201 #[af #[az (U ⟨g,0,none⟩)],af #[H I 7,H I a,H I b,J sn,D A2 m2 e2,D D2 q2 f2],af #[J s,D A1 n1 c1,D D1 n2 c2,D B1 l1 j1,D B2 l2 j2],vd] w (eK (done.getD a.toNat 0+done.getD b.toNat 0) true w):=by
 obtain⟨aL,aS,rfl⟩:=B.form;have al:a.toNat<done.length:=by omega
 have an:b.toNat<done.length:=by omega
 obtain⟨e,ay,F,aq,Z,L,av,ab,aG,f,t⟩:=B.hold al;obtain⟨gb,aA,K,ar,ag,M,aw,ai,aH,i,Q⟩:=B.hold an;subst aG;cases aH;have N:Y (done.getD a.toNat 0=done[a.toNat]):=G (by rw[bz,aT al];rfl);have P:Y (done.getD b.toNat 0=done[b.toNat]):=G (by rw[bz,aT an];rfl);rw[N.out,P.out];generalize done[a.toNat]=aJ at*;generalize done[b.toNat]=aK at*;have f:=f.1.fr f.2;have i:=i.1.fr i.2;have t:Y (∀c,V w c->(c.cell? ⟨e,a.toNat*3,none⟩=U (J ay)/\c.cell? ⟨e,a.toNat*3+1,none⟩=U (D F aq Z)/\c.cell? ⟨e,a.toNat*3+2,none⟩=U (D L av ab))/\(c.cell? ⟨e,b.toNat*3,none⟩=U (J aA)/\c.cell? ⟨e,b.toNat*3+1,none⟩=U (D K ar ag)/\c.cell? ⟨e,b.toNat*3+2,none⟩=U (D M aw ai))):=G λc ao=>⟨t.out c ao,Q.out c ao⟩
 clear B N P Q;obtain⟨aC,R⟩:∃aC,Y (aJ+aK=aC):=⟨_,G rfl⟩;rw[R.out];skip;have a4:=Bo (az (U ⟨g,0,none⟩));go_enter func201,ntmps201;go_wp2_with fail;generalize ak:ah (ah (ah (ah w _) _) _) _=T at*;obtain⟨d,u,v,x,j⟩:=dn ak;clear ak;replace f:=f.up d;replace i:=i.up d;have X:=u.c1;have aD:=v.c6;have aE:=x.c5;have aI:=j.c3;have ax:=j.free;have k:=X;clear X;obtain⟨l,m,n,o,p,q⟩:=aD;have z:=aE;have E:=aI;revert d u v x j f i k l m n o;refine au (V.refl T).drew ?_;intro d u v x j f i k l m n o;revert p q z;refine bo (V.refl T).drew ?_;intro p q z;have E:=j.c3;have ax:=j.free;refine aZ ?_;refine a3 (S:=λc=>V w c/\c.cell? ⟨w.heap.size,0,none⟩=U (az (U ⟨g,0,none⟩))/\c.cell? ⟨w.heap.size+1,0,none⟩=U (H I 7)/\c.cell? ⟨w.heap.size+1,1,none⟩=U (H I a)/\c.cell? ⟨w.heap.size+1,2,none⟩=U (H I b)/\c.cell? ⟨w.heap.size+1,3,none⟩=U (J sn)/\c.cell? ⟨w.heap.size+1,4,none⟩=U (D A2 m2 e2)/\c.cell? ⟨w.heap.size+1,5,none⟩=U (D D2 q2 f2)/\(c.cell? ⟨e,a.toNat*3,none⟩=U (J ay)/\c.cell? ⟨e,a.toNat*3+1,none⟩=U (D F aq Z)/\c.cell? ⟨e,a.toNat*3+2,none⟩=U (D L av ab))/\(c.cell? ⟨e,b.toNat*3,none⟩=U (J aA)/\c.cell? ⟨e,b.toNat*3+1,none⟩=U (D K ar ag)/\c.cell? ⟨e,b.toNat*3+2,none⟩=U (D M aw ai))) (by kernel_rfl) ?_ (λA=> ?_)
 .exact⟨d,k,l,m,n,o,p,q,t.out _ d⟩
 refine aa 0 ?_;refine aa 1 ?_;refine aa 2 ?_;refine aa 3 ?_;refine aa 4 ?_;refine aa 5 ?_;refine aa 6 ?_;refine aa 7 ?_;refine aa 8 ?_;refine aa 9 ?_;refine aa 10 ?_;refine aa 11 ?_;refine aa 12 ?_;refine bZ 13 (λC y=> ?_);go_simp
 (first
   |(go_at_call 267
     with_reducible refine(AL f i (by omega) (by omega)).mono ?_
     rintro aV aP ⟨aO,rfl,r,u1⟩;revert d u v x j f i k l m n o;refine au u1 ?_;intro d u v x j f i k l m n o;revert p q z E;refine bf u1 ?_;intro p q z E
     try(replace r:=r.up u1)
     replace ax:=j.free;clear u1;rw[R.out]at r;skip;obtain⟨aQ,aR,rfl,r,aB⟩:=r;obtain⟨aM,a5,cy,rfl⟩:=r.shape;obtain⟨aN,a6,aU,rfl⟩:=aB.shape))
 try go_wp2_with fail
 try clear A
 refine y.out _ _ ?_ (λA=> ?_)
 .exact⟨d,k,l,m,n,o,p,q,t.out _ d⟩
 clear y C
 try simp only[bc,bg]
 refine bZ 14 (λC y=> ?_);go_simp;skip
 try go_wp2_with fail
 try clear A
 refine y.out _ _ ?_ (λA=> ?_)
 ·(first|exact⟨d,k,l,m,n,o,p,q,t.out _ d⟩|((try simp only[<-World.setCell_drew]);first|exact⟨(us (us (us d))),(cf (cf (cf k))),(cf (cf (cf l))),(cf (cf (cf m))),(cf (cf (cf n))),(cf (cf (cf o))),(cf (cf (cf p))),(cf (cf (cf q))),t.out _ (us (us (us d)))⟩))
 clear y C
 try simp only[bc,bg]
 refine aa 15 ?_;refine aW (by kernel_rfl) ?_ _;refine aX ?_;go_wp2_with fail;exact g8 rfl rfl rfl rfl ⟨_,_,rfl,r,aB⟩ j trivial trivial trivial d (by omega)
theorem BA (B:aF kd w vd done)(a2:kd<=1000)(aY:0<=a)(ha:a<done.length)(a1:0<=b)(hb:b<done.length):
 aj ae 201 #[af #[az (U ⟨g,0,none⟩)],af #[H I 8,H I a,H I b,J sn,D A2 m2 e2,D D2 q2 f2],af #[J s,D A1 n1 c1,D D1 n2 c2,D B1 l1 j1,D B2 l2 j2],vd] w (eK (done.getD a.toNat 0-done.getD b.toNat 0) true w):=by
 obtain⟨aL,aS,rfl⟩:=B.form;have al:a.toNat<done.length:=by omega
 have an:b.toNat<done.length:=by omega
 obtain⟨e,ay,F,aq,Z,L,av,ab,aG,f,t⟩:=B.hold al;obtain⟨gb,aA,K,ar,ag,M,aw,ai,aH,i,Q⟩:=B.hold an;subst aG;cases aH;have N:Y (done.getD a.toNat 0=done[a.toNat]):=G (by rw[bz,aT al];rfl);have P:Y (done.getD b.toNat 0=done[b.toNat]):=G (by rw[bz,aT an];rfl);rw[N.out,P.out];generalize done[a.toNat]=aJ at*;generalize done[b.toNat]=aK at*;have f:=f.1.fr f.2;have i:=i.1.fr i.2;have t:Y (∀c,V w c->(c.cell? ⟨e,a.toNat*3,none⟩=U (J ay)/\c.cell? ⟨e,a.toNat*3+1,none⟩=U (D F aq Z)/\c.cell? ⟨e,a.toNat*3+2,none⟩=U (D L av ab))/\(c.cell? ⟨e,b.toNat*3,none⟩=U (J aA)/\c.cell? ⟨e,b.toNat*3+1,none⟩=U (D K ar ag)/\c.cell? ⟨e,b.toNat*3+2,none⟩=U (D M aw ai))):=G λc ao=>⟨t.out c ao,Q.out c ao⟩
 clear B N P Q;obtain⟨aC,R⟩:∃aC,Y (aJ-aK=aC):=⟨_,G rfl⟩;rw[R.out];skip;have a4:=Bp (az (U ⟨g,0,none⟩));go_enter func201,ntmps201;go_wp2_with fail;generalize ak:ah (ah (ah (ah w _) _) _) _=T at*;obtain⟨d,u,v,x,j⟩:=dn ak;clear ak;replace f:=f.up d;replace i:=i.up d;have X:=u.c1;have aD:=v.c6;have aE:=x.c5;have aI:=j.c3;have ax:=j.free;have k:=X;clear X;obtain⟨l,m,n,o,p,q⟩:=aD;have z:=aE;have E:=aI;revert d u v x j f i k l m n o;refine au (V.refl T).drew ?_;intro d u v x j f i k l m n o;revert p q z;refine bo (V.refl T).drew ?_;intro p q z;have E:=j.c3;have ax:=j.free;refine aZ ?_;refine a3 (S:=λc=>V w c/\c.cell? ⟨w.heap.size,0,none⟩=U (az (U ⟨g,0,none⟩))/\c.cell? ⟨w.heap.size+1,0,none⟩=U (H I 8)/\c.cell? ⟨w.heap.size+1,1,none⟩=U (H I a)/\c.cell? ⟨w.heap.size+1,2,none⟩=U (H I b)/\c.cell? ⟨w.heap.size+1,3,none⟩=U (J sn)/\c.cell? ⟨w.heap.size+1,4,none⟩=U (D A2 m2 e2)/\c.cell? ⟨w.heap.size+1,5,none⟩=U (D D2 q2 f2)/\(c.cell? ⟨e,a.toNat*3,none⟩=U (J ay)/\c.cell? ⟨e,a.toNat*3+1,none⟩=U (D F aq Z)/\c.cell? ⟨e,a.toNat*3+2,none⟩=U (D L av ab))/\(c.cell? ⟨e,b.toNat*3,none⟩=U (J aA)/\c.cell? ⟨e,b.toNat*3+1,none⟩=U (D K ar ag)/\c.cell? ⟨e,b.toNat*3+2,none⟩=U (D M aw ai))) (by kernel_rfl) ?_ (λA=> ?_)
 .exact⟨d,k,l,m,n,o,p,q,t.out _ d⟩
 refine aa 0 ?_;refine aa 1 ?_;refine aa 2 ?_;refine aa 3 ?_;refine aa 4 ?_;refine aa 5 ?_;refine aa 6 ?_;refine aa 7 ?_;refine aa 8 ?_;refine aa 9 ?_;refine aa 10 ?_;refine aa 11 ?_;refine aa 12 ?_;refine bZ 13 (λC y=> ?_);go_simp
 (first
   |(go_at_call 274
     with_reducible refine(AM f i (by omega) (by omega)).mono ?_
     rintro aV aP ⟨aO,rfl,r,u1⟩;revert d u v x j f i k l m n o;refine au u1 ?_;intro d u v x j f i k l m n o;revert p q z E;refine bf u1 ?_;intro p q z E
     try(replace r:=r.up u1)
     replace ax:=j.free;clear u1;rw[R.out]at r;skip;obtain⟨aQ,aR,rfl,r,aB⟩:=r;obtain⟨aM,a5,cy,rfl⟩:=r.shape;obtain⟨aN,a6,aU,rfl⟩:=aB.shape))
 try go_wp2_with fail
 try clear A
 refine y.out _ _ ?_ (λA=> ?_)
 .exact⟨d,k,l,m,n,o,p,q,t.out _ d⟩
 clear y C
 try simp only[bc,bg]
 refine bZ 14 (λC y=> ?_);go_simp;skip
 try go_wp2_with fail
 try clear A
 refine y.out _ _ ?_ (λA=> ?_)
 ·(first|exact⟨d,k,l,m,n,o,p,q,t.out _ d⟩|((try simp only[<-World.setCell_drew]);first|exact⟨(us (us (us d))),(cf (cf (cf k))),(cf (cf (cf l))),(cf (cf (cf m))),(cf (cf (cf n))),(cf (cf (cf o))),(cf (cf (cf p))),(cf (cf (cf q))),t.out _ (us (us (us d)))⟩))
 clear y C
 try simp only[bc,bg]
 refine aa 15 ?_;refine aW (by kernel_rfl) ?_ _;refine aX ?_;go_wp2_with fail;exact g8 rfl rfl rfl rfl ⟨_,_,rfl,r,aB⟩ j trivial trivial trivial d (by omega)
theorem BB (B:aF kd w vd done)(a2:kd<=1000)(aY:0<=a)(ha:a<done.length)(a1:0<=b)(hb:b<done.length):
 aj ae 201 #[af #[az (U ⟨g,0,none⟩)],af #[H I 9,H I a,H I b,J sn,D A2 m2 e2,D D2 q2 f2],af #[J s,D A1 n1 c1,D D1 n2 c2,D B1 l1 j1,D B2 l2 j2],vd] w (eK (done.getD a.toNat 0*done.getD b.toNat 0) true w):=by
 obtain⟨aL,aS,rfl⟩:=B.form;have al:a.toNat<done.length:=by omega
 have an:b.toNat<done.length:=by omega
 obtain⟨e,ay,F,aq,Z,L,av,ab,aG,f,t⟩:=B.hold al;obtain⟨gb,aA,K,ar,ag,M,aw,ai,aH,i,Q⟩:=B.hold an;subst aG;cases aH;have N:Y (done.getD a.toNat 0=done[a.toNat]):=G (by rw[bz,aT al];rfl);have P:Y (done.getD b.toNat 0=done[b.toNat]):=G (by rw[bz,aT an];rfl);rw[N.out,P.out];generalize done[a.toNat]=aJ at*;generalize done[b.toNat]=aK at*;have f:=f.1.fr f.2;have i:=i.1.fr i.2;have t:Y (∀c,V w c->(c.cell? ⟨e,a.toNat*3,none⟩=U (J ay)/\c.cell? ⟨e,a.toNat*3+1,none⟩=U (D F aq Z)/\c.cell? ⟨e,a.toNat*3+2,none⟩=U (D L av ab))/\(c.cell? ⟨e,b.toNat*3,none⟩=U (J aA)/\c.cell? ⟨e,b.toNat*3+1,none⟩=U (D K ar ag)/\c.cell? ⟨e,b.toNat*3+2,none⟩=U (D M aw ai))):=G λc ao=>⟨t.out c ao,Q.out c ao⟩
 clear B N P Q;obtain⟨aC,R⟩:∃aC,Y (aJ*aK=aC):=⟨_,G rfl⟩;rw[R.out];skip;have a4:=Bq (az (U ⟨g,0,none⟩));go_enter func201,ntmps201;go_wp2_with fail;generalize ak:ah (ah (ah (ah w _) _) _) _=T at*;obtain⟨d,u,v,x,j⟩:=dn ak;clear ak;replace f:=f.up d;replace i:=i.up d;have X:=u.c1;have aD:=v.c6;have aE:=x.c5;have aI:=j.c3;have ax:=j.free;have k:=X;clear X;obtain⟨l,m,n,o,p,q⟩:=aD;have z:=aE;have E:=aI;revert d u v x j f i k l m n o;refine au (V.refl T).drew ?_;intro d u v x j f i k l m n o;revert p q z;refine bo (V.refl T).drew ?_;intro p q z;have E:=j.c3;have ax:=j.free;refine aZ ?_;refine a3 (S:=λc=>V w c/\c.cell? ⟨w.heap.size,0,none⟩=U (az (U ⟨g,0,none⟩))/\c.cell? ⟨w.heap.size+1,0,none⟩=U (H I 9)/\c.cell? ⟨w.heap.size+1,1,none⟩=U (H I a)/\c.cell? ⟨w.heap.size+1,2,none⟩=U (H I b)/\c.cell? ⟨w.heap.size+1,3,none⟩=U (J sn)/\c.cell? ⟨w.heap.size+1,4,none⟩=U (D A2 m2 e2)/\c.cell? ⟨w.heap.size+1,5,none⟩=U (D D2 q2 f2)/\(c.cell? ⟨e,a.toNat*3,none⟩=U (J ay)/\c.cell? ⟨e,a.toNat*3+1,none⟩=U (D F aq Z)/\c.cell? ⟨e,a.toNat*3+2,none⟩=U (D L av ab))/\(c.cell? ⟨e,b.toNat*3,none⟩=U (J aA)/\c.cell? ⟨e,b.toNat*3+1,none⟩=U (D K ar ag)/\c.cell? ⟨e,b.toNat*3+2,none⟩=U (D M aw ai))) (by kernel_rfl) ?_ (λA=> ?_)
 .exact⟨d,k,l,m,n,o,p,q,t.out _ d⟩
 refine aa 0 ?_;refine aa 1 ?_;refine aa 2 ?_;refine aa 3 ?_;refine aa 4 ?_;refine aa 5 ?_;refine aa 6 ?_;refine aa 7 ?_;refine aa 8 ?_;refine aa 9 ?_;refine aa 10 ?_;refine aa 11 ?_;refine aa 12 ?_;refine bZ 13 (λC y=> ?_);go_simp
 (first
   |(go_at_call 269
     with_reducible refine(AN f i (by omega) (by omega)).mono ?_
     rintro aV aP ⟨aO,rfl,r,u1⟩;revert d u v x j f i k l m n o;refine au u1 ?_;intro d u v x j f i k l m n o;revert p q z E;refine bf u1 ?_;intro p q z E
     try(replace r:=r.up u1)
     replace ax:=j.free;clear u1;rw[R.out]at r;skip;obtain⟨aQ,aR,rfl,r,aB⟩:=r;obtain⟨aM,a5,cy,rfl⟩:=r.shape;obtain⟨aN,a6,aU,rfl⟩:=aB.shape))
 try go_wp2_with fail
 try clear A
 refine y.out _ _ ?_ (λA=> ?_)
 .exact⟨d,k,l,m,n,o,p,q,t.out _ d⟩
 clear y C
 try simp only[bc,bg]
 refine bZ 14 (λC y=> ?_);go_simp;skip
 try go_wp2_with fail
 try clear A
 refine y.out _ _ ?_ (λA=> ?_)
 ·(first|exact⟨d,k,l,m,n,o,p,q,t.out _ d⟩|((try simp only[<-World.setCell_drew]);first|exact⟨(us (us (us d))),(cf (cf (cf k))),(cf (cf (cf l))),(cf (cf (cf m))),(cf (cf (cf n))),(cf (cf (cf o))),(cf (cf (cf p))),(cf (cf (cf q))),t.out _ (us (us (us d)))⟩))
 clear y C
 try simp only[bc,bg]
 refine aa 15 ?_;refine aW (by kernel_rfl) ?_ _;refine aX ?_;go_wp2_with fail;exact g8 rfl rfl rfl rfl ⟨_,_,rfl,r,aB⟩ j trivial trivial trivial d (by omega)
theorem BC (B:aF kd w vd done)(a4:kd<=1000)(a1:0<=a)(ha:a<done.length)(a2:0<=b)(hb:b<done.length):
 aj ae 201 #[af #[az (U ⟨g,0,none⟩)],af #[H I 10,H I a,H I b,J sn,D A2 m2 e2,D D2 q2 f2],af #[J s,D A1 n1 c1,D D1 n2 c2,D B1 l1 j1,D B2 l2 j2],vd] w (eK (done.getD a.toNat 0/done.getD b.toNat 0) (!decide (done.getD b.toNat 0=0)) w):=by
 obtain⟨aM,aU,rfl⟩:=B.form;have ao:a.toNat<done.length:=by omega
 have aq:b.toNat<done.length:=by omega
 obtain⟨e,aB,K,av,ag,M,ax,ai,aI,f,t⟩:=B.hold ao;obtain⟨gb,aC,L,aw,ak,N,ay,al,aJ,i,T⟩:=B.hold aq;subst aI;cases aJ;have P:Y (done.getD a.toNat 0=done[a.toNat]):=G (by rw[bz,aT ao];rfl);have Q:Y (done.getD b.toNat 0=done[b.toNat]):=G (by rw[bz,aT aq];rfl);rw[P.out,Q.out];generalize done[a.toNat]=aL at*;generalize done[b.toNat]=aD at*;have f:=f.1.fr f.2;have i:=i.1.fr i.2;have t:Y (∀c,V w c->(c.cell? ⟨e,a.toNat*3,none⟩=U (J aB)/\c.cell? ⟨e,a.toNat*3+1,none⟩=U (D K av ag)/\c.cell? ⟨e,a.toNat*3+2,none⟩=U (D M ax ai))/\(c.cell? ⟨e,b.toNat*3,none⟩=U (J aC)/\c.cell? ⟨e,b.toNat*3+1,none⟩=U (D L aw ak)/\c.cell? ⟨e,b.toNat*3+2,none⟩=U (D N ay al))):=G λc ar=>⟨t.out c ar,T.out c ar⟩
 clear B P Q T;obtain⟨C,X⟩:∃C,Y (aL/aD=C):=⟨_,G rfl⟩;rw[X.out];obtain⟨a8,R⟩:∃C,Y ((!decide (aD=0))=C):=⟨_,G rfl⟩;rw[R.out]
 have a5:=Br (az (U ⟨g,0,none⟩));go_enter func201,ntmps201;go_wp2_with fail;generalize an:ah (ah (ah (ah w _) _) _) _=Z at*;obtain⟨d,u,v,x,j⟩:=dn an;clear an;replace f:=f.up d;replace i:=i.up d;have ab:=u.c1;have aG:=v.c6;have aH:=x.c5;have aK:=j.c3;have aA:=j.free;have k:=ab;clear ab;obtain⟨l,m,n,o,p,q⟩:=aG;have z:=aH;have F:=aK;revert d u v x j f i k l m n o;refine au (V.refl Z).drew ?_;intro d u v x j f i k l m n o;revert p q z;refine bo (V.refl Z).drew ?_;intro p q z;have F:=j.c3;have aA:=j.free;refine aZ ?_;refine a3 (S:=λc=>V w c/\c.cell? ⟨w.heap.size,0,none⟩=U (az (U ⟨g,0,none⟩))/\c.cell? ⟨w.heap.size+1,0,none⟩=U (H I 10)/\c.cell? ⟨w.heap.size+1,1,none⟩=U (H I a)/\c.cell? ⟨w.heap.size+1,2,none⟩=U (H I b)/\c.cell? ⟨w.heap.size+1,3,none⟩=U (J sn)/\c.cell? ⟨w.heap.size+1,4,none⟩=U (D A2 m2 e2)/\c.cell? ⟨w.heap.size+1,5,none⟩=U (D D2 q2 f2)/\(c.cell? ⟨e,a.toNat*3,none⟩=U (J aB)/\c.cell? ⟨e,a.toNat*3+1,none⟩=U (D K av ag)/\c.cell? ⟨e,a.toNat*3+2,none⟩=U (D M ax ai))/\(c.cell? ⟨e,b.toNat*3,none⟩=U (J aC)/\c.cell? ⟨e,b.toNat*3+1,none⟩=U (D L aw ak)/\c.cell? ⟨e,b.toNat*3+2,none⟩=U (D N ay al))) (by kernel_rfl) ?_ (λA=> ?_)
 .exact⟨d,k,l,m,n,o,p,q,t.out _ d⟩
 refine aa 0 ?_;refine aa 1 ?_;refine aa 2 ?_;refine aa 3 ?_;refine aa 4 ?_;refine aa 5 ?_;refine aa 6 ?_;refine aa 7 ?_;refine aa 8 ?_;refine aa 9 ?_;refine aa 10 ?_;refine aa 11 ?_;refine aa 12 ?_;refine bZ 13 (λE y=> ?_);go_simp
 (first
   |(go_at_call 273
     with_reducible refine(AO f i (by omega) (by omega)).mono ?_
     rintro aY aQ ⟨aP,rfl,r,u1⟩;revert d u v x j f i k l m n o;refine au u1 ?_;intro d u v x j f i k l m n o;revert p q z F;refine bf u1 ?_;intro p q z F
     try(replace r:=r.up u1)
     replace aA:=j.free;clear u1;rw[X.out]at r;rw[R.out];obtain⟨aR,aS,rfl,r,aE⟩:=r;obtain⟨aN,a6,cy,rfl⟩:=r.shape;obtain⟨aO,a7,aV,rfl⟩:=aE.shape))
 try go_wp2_with fail
 try clear A
 refine y.out _ _ ?_ (λA=> ?_)
 .exact⟨d,k,l,m,n,o,p,q,t.out _ d⟩
 clear y E
 try simp only[bc,bg]
 refine aa 14 ?_;refine aa 15 ?_;refine bZ 16 (λE y=> ?_);go_simp;skip
 try go_wp2_with fail
 try clear A
 refine y.out _ _ ?_ (λA=> ?_)
 ·(first|exact⟨d,k,l,m,n,o,p,q,t.out _ d⟩|((try simp only[<-World.setCell_drew]);first|exact⟨(us (us (us d))),(cf (cf (cf k))),(cf (cf (cf l))),(cf (cf (cf m))),(cf (cf (cf n))),(cf (cf (cf o))),(cf (cf (cf p))),(cf (cf (cf q))),t.out _ (us (us (us d)))⟩))
 clear y E
 try simp only[bc,bg]
 refine aa 17 ?_;refine aW (by kernel_rfl) ?_ _;refine aX ?_;go_wp2_with fail;exact g8 rfl rfl rfl rfl ⟨_,_,rfl,r,aE⟩ j trivial trivial trivial d (by omega)
theorem BD {i:ba}
 (j:Ws w u i.n.2.1)(e:Ws w d i.n.2.2)(ak:i.n.bd 1000)(o:Qw w (af #[J s,D A1 n1 c1,D D1 n2 c2]) t)(al:E.Lq t k)(l:aF ky w vy ys)(f:aF kp w vp ps)(ai:∃y n c,vd=D y n c)
 (M:i.op=3->0<=i.a/\i.a<ys.length)(N:i.op=4->0<=i.a/\i.a<ps.length)(P:i.op≠6)(L:i.op≠11)(Q:i.op≠7)(R:i.op≠8)(S:i.op≠9)(K:i.op≠10):
 aj ae 201 #[af #[az (U ⟨g,0,none⟩)],af #[H I i.op,H I i.a,H I i.b,J i.n.1,u,d],af #[J s,D A1 n1 c1,D D1 n2 c2,vy,vp],vd] w (eK (Z.ga i t ys ps) true w):=by
 obtain⟨y,n,c,rfl⟩:=ai;obtain⟨av,aI,rfl⟩:=l.form;obtain⟨B2,aJ,rfl⟩:=f.form;obtain⟨ao,aN,aG,rfl⟩:=j.shape;obtain⟨aw,aQ,aH,rfl⟩:=e.shape;obtain⟨b,a,A,n⟩:=i;simp only at*;obtain⟨aa,z⟩:∃aa,Y (Z.ga ⟨b,a,A,n⟩ t ys ps=aa):=⟨_,G rfl⟩;rw[z.out];have k6:(b==6)=false:=by rw[beq_eq_false_iff_ne];exact P
 have aL:(b==11)=false:=by rw[beq_eq_false_iff_ne];exact L
 have k7:(b==7)=false:=by rw[beq_eq_false_iff_ne];exact Q
 have o7:(b==8)=false:=by rw[beq_eq_false_iff_ne];exact R
 have aM:(b==9)=false:=by rw[beq_eq_false_iff_ne];exact S
 have aK:(b==10)=false:=by rw[beq_eq_false_iff_ne];exact K
 have ab:=G M;have ag:=G N;clear P Q R S K L M N;go_enter func201,ntmps201;go_wp2_with fail;generalize T:ah (ah (ah (ah w _) _) _) _=ay at*;obtain⟨q,r,v,x,m⟩:=dn T;clear T;revert o l f j e;refine b8 q ?_;intro o l f j e;have B:=r.c1;have C:=v.c6;have F:=x.c5;have V:=m.c3;have an:=m.free
 with_reducible refine(Bv (i:=⟨b,a,A,n⟩) j e ak o al l f ab.out ag.out).mono ?_
 rintro aE aA ⟨ax,rfl,p,u1⟩;revert q r v x m o l f j e B C;refine au u1 ?_;intro q r v x m o l f j e B C;revert F V;refine cR u1 ?_;intro F V;replace an:=m.free;clear u1;rw[z.out]at p;obtain⟨aB,aC,rfl,p,X⟩:=p;obtain⟨aq,aO,cy,rfl⟩:=p.shape;obtain⟨ar,aP,aD,rfl⟩:=X.shape;go_wp2_with fail;exact g8 rfl rfl rfl rfl ⟨_,_,rfl,p,X⟩ m trivial trivial trivial q (by omega)
def gi (r:Option Rat)(w:O)(e:aO)(b:O):Prop:= ∃a q,e=aw (aY #[a,J r.isSome])/\Qw b a q/\(∀c,r=U c->c=q)/\V w b
theorem gi.yes (h:eK q true w e ab):gi (U q) w e ab:=by
 obtain⟨v,h1,h2,a⟩:=h;exact⟨v,q,h1,h2,λz b=>by cases b;rfl,a⟩
theorem gi.ite {b:Bool}{r:Option Rat}(h:eK q b w e ab)(d:r=if b=true then U q else none):gi r w e ab:=by
 obtain⟨v,h1,h2,c⟩:=h;subst d;cases b
 .exact⟨v,q,h1,h2,λz a=>by simp at a,c⟩
 .exact⟨v,q,h1,h2,λz a=>by simp at a;exact a.symm,c⟩
theorem fV {i m:Int}(h:Z.below i m=true):0<=i/\i<m:=of_decide_eq_true h
theorem BE {i:ba}
 (F:Ws w u i.n.2.1)(z:Ws w d i.n.2.2)(T:i.n.bd 1000)(X:Qw w (af #[J s,D A1 n1 c1,D D1 n2 c2]) t)(V:E.Lq t k)(G:aF ky w vy ys)(C:aF kp w vp ps)(l:aF kd w vd done)(m:kd<=1000)
 (B:Y (Z.dP ys.length ps.length done.length i=true)):
 aj ae 201 #[af #[az (U ⟨g,0,none⟩)],af #[H I i.op,H I i.a,H I i.b,J i.n.1,u,d],af #[J s,D A1 n1 c1,D D1 n2 c2,vy,vp],vd] w (gi (Z.val i t ys ps done) w):=by
 have K:=l.form;obtain⟨ag,al,M⟩:=G.form;obtain⟨B2,an,N⟩:=C.form;obtain⟨ab,ao,ai,P⟩:=F.shape;obtain⟨ah,ar,ak,Q⟩:=z.shape
 by_cases A:i.op≠6/\i.op≠11/\i.op≠7/\i.op≠8/\i.op≠9/\i.op≠10
 .obtain⟨r,q,v,x,y,p⟩:=A
  have j:Z.val i t ys ps done=U (Z.ga i t ys ps):=by
   unfold Z.val Z.ga;simp only[r,q,v,x,y,p,if_false]
   split
   .rfl
   .split
    .rfl
    .split<;>rfl
  rw[j];have b:=B.out;unfold Z.dP at b;refine(BD F z T X V G C ⟨_,_,K.choose_spec⟩ ?_ ?_ r q v x y p).mono λj o e=>gi.yes e
  .intro R;simp only[R]at b;simp at b;exact fV b.2.2.1
  .intro S;simp only[S]at b;simp at b;exact fV b.2.2.1
 .subst M N P Q;obtain⟨n,a,L,aq⟩:=i;simp only at*;have b:=B.out;unfold Z.dP Z.reads at b;simp only at b
  by_cases r:n=6
  .subst r;simp at b;have:=fV b.2.1;exact(Bw l m this.1 this.2).mono λj o e=>gi.yes e
  by_cases q:n=11
  .subst q;simp at b;have c:=fV b.2.1;have f:=b.2.2;exact(By l m c.1 c.2 (by omega)).mono λj o e=>gi.ite e (by unfold Z.val;simp)
  by_cases v:n=7
  .subst v;simp at b;have c:=fV b.2.1;have f:=fV b.2.2;exact(Bz l m c.1 c.2 f.1 f.2).mono λj o e=>gi.yes e
  by_cases x:n=8
  .subst x;simp at b;have c:=fV b.2.1;have f:=fV b.2.2;exact(BA l m c.1 c.2 f.1 f.2).mono λj o e=>gi.yes e
  by_cases y:n=9
  .subst y;simp at b;have c:=fV b.2.1;have f:=fV b.2.2;exact(BB l m c.1 c.2 f.1 f.2).mono λj o e=>gi.yes e
  by_cases p:n=10
  .subst p;simp at b;have c:=fV b.2.1;have f:=fV b.2.2
   exact(BC l m c.1 c.2 f.1 f.2).mono λj o e=>gi.ite e (by
    unfold Z.val;simp only
    by_cases aa:done.getD L.toNat 0=0<;>simp[aa])
  .exact absurd ⟨r,q,v,x,y,p⟩ A
theorem hH {l:List Rat}(h:∀q∈l,E.Lq q k)(j:Nat):E.Lq (l.getD j 0) (k+2):=by
 rw[bz]
 by_cases a:j<l.length
 .rw[aT a];exact(h _ (cq a)).mono (by omega)
 .rw[List.getElem?_eq_none (by omega)];exact kj.mono (by omega)
theorem BF {r:ay}(h:r.bd k)(h1:1<=k)(b:Ws w u r.2.1)(a:Ws w d r.2.2):E.Lq r.val k:=Fr.lq (w:=w) (v:=af #[J r.1,u,d]) ⟨_,_,_,_,_,rfl,b,a,rfl,h.1,h.2,h1⟩
theorem BG {i:ba}{th:Nat}{z:Rat}(f:E.Lq t k)(g:∀q∈ys,E.Lq q ky)(e:∀q∈ps,E.Lq q kp)(c:∀q∈ds,E.Lq q kd)(d:E.Lq i.n.val th)(h:Z.val i t ys ps ds=U z):E.Lq z (k+ky+kp+8*kd+th+20):=by
 have a:=hH c i.a.toNat;have b:=hH c i.b.toNat;unfold Z.val at h;simp only at h
 split at h
 .cases h;exact d.mono (by omega)
 split at h
 .cases h;exact(hH g _).mono (by omega)
 split at h
 .cases h;exact(hH e _).mono (by omega)
 split at h
 .cases h;exact a.neg.mono (by omega)
 split at h
 .split at h
  .rename_i hb
   cases h;have j:=of_decide_eq_true hb;unfold E.gI;rw[if_pos hb];exact(a.zpow (n:=8) (by omega) (by omega)).mono (by omega)
  .cases h
 split at h
 .cases h;exact(a.add b).mono (by omega)
 split at h
 .cases h;exact(a.sub b).mono (by omega)
 split at h
 .cases h;exact(a.mul b).mono (by omega)
 split at h
 .split at h
  .cases h
  .cases h;exact(a.div b).mono (by omega)
 .cases h;exact f.mono (by omega)
theorem tB {m:Nat}(h:E.bD n<=32*m):(E.words n).length<=m+1:=by
 rcases Nat.eq_zero_or_pos (E.words n).length with a|a
 .omega
 .have:=E.qV n a;omega
theorem tC (h:(Z.bits q:Int)<=L)(a:L<=4096):E.Lq q 130:=by
 unfold Z.bits at h;exact⟨tB (m:=129) (by omega),tB (m:=129) (by omega)⟩
theorem BH {i:ba}{l:List ba}{v:Rat}(a:Z.val i t y p ds=U v)(hb:(Z.bits v:Int)<=L):Z.run L t y p (i::l) ds=Z.run L t y p l (ds++[v]):=by
 rw[Z.run,a];simp only;rw[if_pos hb]
theorem BI {i:ba}{l:List ba}(a:Z.val i t y p ds=none):Z.run L t y p (i::l) ds=(((3,0,0,(ds.length:Int)):bv),[]):=by
 rw[Z.run,a]
theorem BJ {i:ba}{l:List ba}{v:Rat}(a:Z.val i t y p ds=U v)(hb:¬(Z.bits v:Int)<=L):Z.run L t y p (i::l) ds=(((6,0,0,(ds.length:Int)):bv),[]):=by
 rw[Z.run,a];simp only;rw[if_neg hb]
theorem aA.bx {P:O->W->α->Prop}{qs:List α}(h:aA P T base w v qs)(a:w.grownBy ab v.ownBlock)(hb:Bx S w g vs)(b:T≠S):Bx S ab g vs:=(a.block g hb.lt (λe=>eu h hb b e.symm)).trans hb
theorem fl {fn:Func}{tmps:Array W}{t u:Tmp}{cs:List W}(d:fn.results=#[.tmp u,.cell t T])(e:tmps.getD t undef=az (U ⟨g,0,none⟩))
 (b:∀w:O,(ct T).run ae w= .ok true w)(a:∀w:O,(ci T).run ae w= .ok n w)(hb:Bx S w g cs)(c:cs.length=n):(results fn tmps).run ae w= .ok (aY #[tmps.getD u undef,af cs.toArray]) w:=by
 have:=gO b a hb c;have f:tmps[t]?.getD undef=az (U ⟨g,0,none⟩):=by simpa using e
 simp[results,d,f,this,asAddr]
theorem bM (w:O):(ct 63).run ae w= .ok true w:=by kernel_rfl
theorem bN (w:O):(ci 63).run ae w= .ok 4 w:=by kernel_rfl
def cJ (f:bv):W:=af #[H I f.1,H I f.2.1,H I f.2.2.1,H I f.2.2.2]
def ea (k:Nat)(r:bv×List Rat)(w:O)(e:aO)(b:O):Prop:= ∃a,e=aw (aY #[a,cJ r.1])/\(r.1=Z.aG->aF k b a r.2)/\(∃c f d,a=D c f d)/\V w b
theorem ea.bad {r:bv×List Rat}{f:bv}(h:r=(f,[]))(h1:f.1≠0)(a:V w ab):ea k r w (aw (aY #[D none 0 0,cJ f])) ab:=by
 subst h;exact⟨_,rfl,λe=>absurd (congrArg Prod.fst e) h1,⟨_,_,_,rfl⟩,a⟩
theorem ea.bV {r:bv×List Rat}{bi:W}(h:r=(Z.aG,ds))(a:aF k ab bi ds)(b:V w ab):ea k r w (aw (aY #[bi,cJ Z.aG])) ab:=by
 subst h;obtain⟨d,c,e⟩:=a.form;exact⟨_,rfl,λ_=>a,⟨_,_,_,e⟩,b⟩
theorem Gb.own {P:O->W->α->Prop}(c:Kp P){qs:List α}(h:Gb g w ab)(a:aA P T base w v qs)(hb:Bx S w g vs)(b:T≠S):aA P T base ab v qs:=a.kept c h.2 h.1 (.inr (eu a hb b))
theorem BK {code:List ba}(h:Z.c9 code os ar par=true)(a:j<code.length):Z.dP ar par j code[j]=true:=by
 unfold Z.c9 at h;simp only[Bool.and_eq_true]at h;have:=List.all_eq_true.1 h.2.1 j (List.mem_range.2 a)
 rwa [bz,aT a]at this
theorem io {code:List ba}(h:Z.c9 code os ar par=true):(1<=ar/\ar<=6/\0<=par/\par<=6/\(os.length:Int)=ar/\code.length<=300)/\ ∀o∈os,0<=o/\o<(code.length:Int):=by
 unfold Z.c9 Z.whole at h;simp only[Bool.and_eq_true,decide_eq_true_eq]at h;exact⟨h.1,λo a=>fV (List.all_eq_true.1 h.2.2 o a)⟩
theorem pl {r:ay}(h:r.bd j)(a:j<=k):r.bd k:=⟨aQ h.1 a,aQ h.2 a⟩
theorem BL {code:List ba}(bz:V w0 w)(b4:w0.heap.size<=g)(hb:Bx 154 w g [H I 0,H I 0,H I L])
 (h:Sn dc w0 (D A code.length cc) code)(bw:c0 w0 (D B os.length cb) os)(bt:Y (∀i∈code,i.n.bd 1000))(a1:Y (Z.c9 code os ar par=true))(aY:Y ((ys.length:Int)=ar))(aZ:Y ((ps.length:Int)=par))(b0:0<=L/\L<=4096)
 (bx:Qw w0 (af #[J s,D A1 n1 c1,D D1 n2 c2]) t)(bu:Y (E.Lq t k))(a2:aF ky w0 vy ys)(aM:aF kp w0 vp ps)(cL:k<=200000)(cN:ky<=200000)(cM:kp<=200000):
 aj ae 179 #[af #[az (U ⟨g,0,none⟩)],af #[D A code.length cc,D B os.length cb,H I ar,H I par],af #[J s,D A1 n1 c1,D D1 n2 c2,vy,vp]] w (ea 130 (Z.run L t ys ps code []) w0):=by
 obtain⟨bB,b7,rfl⟩:=a2.form;obtain⟨B2,b8,rfl⟩:=aM.form;have aX:=G (io a1.out);have cH:code.length<=300:=aX.out.1.2.2.2.2.2;have cP:os.length<=6:=by have:=aX.out.1;omega
 have cI:ys.length<=6:=by have:=aX.out.1;have:=aY.out;omega
 have cQ:ps.length<=6:=by have:=aX.out.1;have:=aZ.out;omega
 have bg:=G bx;have bi:=G a2;have bd:=G aM;have a7:=G h;have bI:=G bw;have aW:=G bz;have cJ:g<w.heap.size:=hb.lt;have cD:((ys.length:Int) !=ar)=false:=by rw[bne_eq_false_iff_eq];exact aY.out
 have cE:((ps.length:Int) !=par)=false:=by rw[bne_eq_false_iff_eq];exact aZ.out
 clear bx a2 aM h bw bz;go_enter func179,ntmps179;go_wp2_with fail;generalize m:ah (ah (ah (ah w _) _) _) _=cm at*;obtain⟨b,d,e,f,a⟩:=dn m;clear m;replace hb:=hb.up b;have q:=d.c1;have u:=e.c4;have v:=f.c5;have j:=a.c4;have Q:=a.free;have b1:db ar:=by have:=aY.out;unfold db;omega
 with_reducible refine(pj (a7.out.up (cV 0) (aW.out.trans b)) (bI.out.up (aW.out.trans b)) (G λi b5=>pl (bt.out i b5) (by omega)) b1 (by omega) (by omega)).mono ?_
 rintro bq cn ⟨rfl,u1⟩;revert b d e f a hb q u v;refine bE u1 ?_;intro b d e f a hb q u v;revert j;refine cj u1 ?_;intro j;replace Q:=a.free;clear u1;rw[a1.out];have aQ:=G d;have aS:=G e;have aT:=G f;have aU:=G a;have a9:=G hb;have bh:=G (aW.out.trans b);clear hb;go_wp2_with fail;clear d e f a b q u v j Q
 go_loopw[8,9,10,11,12,36] (λca _ _ _ _ a3 wr=> ∃(aq:Nat) (c:List Rat) (pk:Int),a3=H I (aq:Int)/\aq<=code.length/\c.length=aq/\Y (Z.run L t ys ps code []=Z.run L t ys ps (code.drop aq) c)/\aL 130 w0 wr ca c/\Bx 275 wr w.heap.size [az (U ⟨g,0,none⟩)]/\Bx 43 wr (w.heap.size+1) [D A code.length cc,D B os.length cb,H I ar,H I par]/\Bx 277 wr (w.heap.size+1+1) [J s,D A1 n1 c1,D D1 n2 c2,D bB ys.length b7,D B2 ps.length b8]/\Bx 63 wr (w.heap.size+1+1+1) [H I 0,H I 0,H I 0,H I 0]/\Bx 154 wr g [H I (aq:Int),H I pk,H I L]/\V w0 wr) (λ_ _ _ _ _ a3 _=>code.length-(aI a3).toNat)
 case atStart=>exact⟨0,[],0,rfl,bn _,rfl,G rfl,aA.nil _ _ _ _,aQ.out,aS.out,aT.out,aU.out,a9.out,bh.out⟩
 case round=>
  clear aQ aS aT aU a9 bh;obtain⟨aq,c,pk,rfl,cK,b2,ay,p,d,e,f,a,l,b⟩:=hrel;have cS:w0.heap.size<=w.heap.size:=aW.out.size;obtain⟨bk,bo,rfl⟩:=p.form;subst b2
  by_cases aK:c.length<code.length
  .obtain⟨cv,o,c3,bU,cG,aM,aa⟩:=(a7.out.up (cV 0) b).at_ (cV 0) (by omega) aK
   subst bU;have bF:Y (code.drop c.length=code[c.length]::code.drop (c.length+1)):=G (List.drop_eq_getElem_cons aK);have bH:Y (Z.dP ys.length ps.length c.length code[c.length]=true):=G (by rw[aY.out,aZ.out];exact BK a1.out aK);have a8:=G (bt.out _ (cq aK));have b6:c.length+1<=code.length:=aK;generalize code[c.length]=i at*;obtain⟨cZ,cC,rfl,C,F,_,_,_⟩:=aM;obtain⟨ce,cB,rfl⟩:=C.form;obtain⟨cf,d2,rfl⟩:=F.form;have br:=aa 0 _ rfl;have bV:=aa 1 _ rfl;have bW:=aa 2 _ rfl;have g3:=aa 3 _ rfl;have bX:=aa 4 _ rfl;have bY:=aa 5 _ rfl;rw[Nat.add_zero]at br;rw[bF.out]at ay;have k1:(c.length:Int)<(code.length:Int):=by omega
   have cU:(0:Int)<=(c.length:Int):=by omega
   have cW:((c.length:Int)).toNat=c.length:=by omega
   clear aa;obtain⟨r,aB⟩:∃r,Y (Z.val i t ys ps c=r):=⟨_,G rfl⟩;have ch:Y (Qw wr (af #[J s,D A1 n1 c1,D D1 n2 c2]) t):=G (bg.out.up b);have cO:=Bu (az (U ⟨g,0,none⟩));have q:=d.c1;have u:=e.c4;have v:=f.c5;have j:=a.c4;have Q:=a.free;have z:=l.c3;have aD:=cA q;have aE:=ez u;have aG:=ez v;have aN:=ez j;have aO:=a.fa;have aH:=ez z;go_wp2_with fail;clear aD aE aG aN aO aH;generalize m:ah wr _=co at*;obtain⟨N,y⟩:=aC m;clear m;have cw:=d.lt;have cx:=e.lt;have cz:=f.lt;have cY:=a.lt;have cF:=l.lt;clear z;revert d f a b p l e C F q u;refine bC N ?_;intro d f a b p l e C F q u;revert v j;refine cR N ?_;intro v j
   replace Q:=a.free;have z:=l.c3;clear N;have P:=y.c6;clear br bV bW g3 bX bY
   with_reducible refine(BE C F a8.out (bg.out.up b) bu.out (bi.out.up b) (bd.out.up b) p.a (by omega) bH).mono ?_
   rintro bq bl ⟨ck,cX,rfl,x,bA,u52⟩;clear z P;revert y d f a b p l e C F q u;refine au u52 ?_;intro y d f a b p l e C F q u;revert v j;refine cR u52 ?_;intro v j
   replace Q:=a.free;have z:=l.c3;have P:=y.c6;clear u52;rw[aB.out]at bA|-;cases r with
   |none=>
    have X:Y (Z.run L t ys ps code []=(((3,0,0,(c.length:Int)):bv),[])):=G (by rw[ay.out,BI aB.out]);obtain⟨bP,bQ,rfl,x,K⟩:=x;obtain⟨ab,av,cy,rfl⟩:=x.shape;obtain⟨ai,aw,an,rfl⟩:=K.shape;have aD:=cA q;have aE:=ez u;have aG:=ez v;have aN:=ez j;have aO:=a.fa;have aH:=ez z;have a6:=ez P;go_wp2_with fail;clear aD aE aG aN aO aH a6;generalize m:ah bl _=bm at*;obtain⟨N,S⟩:=aC m;clear m;have bR:=d.lt;have bS:=e.lt;have bT:=f.lt;have b9:=a.lt;have bZ:=l.lt;have cd:=y.lt;clear z P;revert y d f a b p l e C F x K;refine au N ?_;intro y d f a b p l e C F x K;revert q u v j;refine bf N ?_;intro q u v j
    replace Q:=a.free;have z:=l.c3;have P:=y.c6;clear N;have aP:=S.c3;clear p C F K;generalize m:ag (ag (ag (ag bm _ _) _ _) _ _) _ _=cp at*;have n:=bp a m;clear m;replace x:=x.kw n.kw;replace d:=d.bs n;replace e:=e.bs n;replace f:=f.bs n;replace l:=l.bs n;replace y:=y.bs n;replace S:=S.bs n;replace a:=n.new;replace b:=b.bs n;clear n;clear q u v j z P aP;have q:=d.c1;have u:=e.c4;have v:=f.c5;have j:=a.c4;have z:=l.c3;have P:=y.c6;have aP:=S.c3;exact a4 (fl rfl rfl bM bN a rfl) rfl (ea.bad X.out (show(3:Int)≠0 by decide) b)
   |some M=>
    obtain rfl:=bA M rfl;have bb:Y (E.Lq M (k+ky+kp+8*130+1000+20)):=G (BG bu.out bi.out.fs.lq bd.out.fs.lq p.fs.lq (BF a8.out (by omega) C F) aB.out);obtain⟨a5,aV⟩:∃a5,Y (decide ((Z.bits M:Int)<=L)=a5):=⟨_,G rfl⟩;have cg:=G (x.sz bb.out);obtain⟨bP,bQ,rfl,x,K⟩:=x;obtain⟨ab,av,cy,rfl⟩:=x.shape;obtain⟨ai,aw,an,rfl⟩:=K.shape;have aD:=cA q;have aE:=ez u;have aG:=ez v;have aN:=ez j;have aO:=a.fa;have aH:=ez z;have a6:=ez P;go_wp2_with fail;clear aD aE aG aN aO aH a6;generalize m:ah bl _=bm at*;obtain⟨N,S⟩:=aC m;clear m;have bR:=d.lt;have bS:=e.lt;have bT:=f.lt;have b9:=a.lt;have bZ:=l.lt;have cd:=y.lt;clear z P;revert y d f a b p l e C F x K;refine au N ?_;intro y d f a b p l e C F x K;revert q u v j;refine bf N ?_;intro q u v j
    replace Q:=a.free;have z:=l.c3;have P:=y.c6;clear N;have aP:=S.c3
    ((with_reducible refine(AQ l (Qw.sz (il x K) bb.out) (by omega) (by omega)).mono ?_))
    rintro bq T ⟨rfl,bs,R⟩;rw[aV.out];have aJ:g≠w.heap.size/\g≠w.heap.size+1/\g≠w.heap.size+1+1/\g≠w.heap.size+1+1+1:=by omega
    replace p:aL 130 w0 T (D bk c.length bo) c:=R.own (aR 130) p l (by decide);replace d:=R.bx d aJ.1.symm;replace e:=R.bx e aJ.2.1.symm;replace f:=R.bx f aJ.2.2.1.symm;replace a:=R.bx a aJ.2.2.2.symm;replace S:=R.bx S (by omega);replace x:=x.kw R.2;replace K:=K.kw R.2;replace b:=R.du b b4;clear l y C F aJ q u v j Q z P aP;cases a5
    .have X:Y (Z.run L t ys ps code []=(((6,0,0,(c.length:Int)):bv),[])):=G (by rw[ay.out,BJ aB.out (of_decide_eq_false aV.out)]);have j:=a.c4;have Q:=a.free;go_wp2_with fail;generalize m:ag (ag (ag (ag T _ _) _ _) _ _) _ _=cr at*;have n:=bp a m;clear m;replace a:=n.new;replace b:=b.bs n;clear n;clear j;have j:=a.c4;exact a4 (fl rfl rfl bM bN a rfl) rfl (ea.bad X.out (show(6:Int)≠0 by decide) b)
    .have X:Y (Z.run L t ys ps code []=Z.run L t ys ps (code.drop (c.length+1)) (c++[M])):=G (by rw[ay.out,BH aB.out (of_decide_eq_true aV.out)]);have bD:Y (E.Lq M 130):=G (tC (of_decide_eq_true aV.out) b0.2);have ak:Y (aL 130 w0 (T.alloc (ao #[J (E.aB M.num),D ab av cy,D ai aw an] 53)) (D bk c.length bo) c):=G (p.up ((V.refl T).alloc _));have bJ:Y (Qk 130 (T.alloc (ao #[J (E.aB M.num),D ab av cy,D ai aw an] 53)) (af #[J (E.aB M.num),D ab av cy,D ai aw an]) M):=G ⟨Qw.up (il x K) ((V.refl T).alloc _),bD.out⟩;have bK:=G (b.alloc (ao #[J (E.aB M.num),D ab av cy,D ai aw an] 53));have al:=(V.refl T).alloc (ao #[J (E.aB M.num),D ab av cy,D ai aw an] 53);have aQ:=G (d.up al);have aS:=G (e.up al);have aT:=G (f.up al);have aU:=G (a.up al);have bG:=G (bs.up al);clear al d e f a bs p x K;have aP:=S.c3;go_wp2_with(at_builtin;refine fR (aR 130) underlying44 d7 (w0:=w0) rfl _ _ rfl rfl ak.out bK.out rfl (heap_alloc_new T _) bJ.out (by omega) ?_;intro cl ct bL ci ax bO)
     go_roundw
     case rel=>exact⟨c.length+1,c++[M],_,by first|rfl|go_num,b6,by simp,X,bL,aA.bx ak.out ax aQ.out (by decide),aA.bx ak.out ax aS.out (by decide),aA.bx ak.out ax aT.out (by decide),aA.bx ak.out ax aU.out (by decide),aA.bx ak.out ax bG.out (by decide),bO⟩
     case measure=>simp[aI];omega
  .have b3:c.length=code.length:=by omega
   have k1:¬((c.length:Int)<(code.length:Int)):=by omega
   have X:Y (Z.run L t ys ps code []=(Z.aG,c)):=G (by rw[ay.out,List.drop_of_length_le (by omega)];rfl);have j:=a.c4;have Q:=a.free;go_wp2_with fail;generalize m:ag (ag (ag (ag wr _ _) _ _) _ _) _ _=cu at*;have n:=bp a m;clear m;replace p:=p.bs n;replace a:=n.new;replace b:=b.bs n;clear n;clear j;have j:=a.c4;have bj:=p.a;rw[b3]at bj;exact a4 (fl rfl rfl bM bN a rfl) rfl (ea.bV X.out bj b)
theorem BM (h:j<os.length)(r:List Rat):Z.outs (os.take (j+1)) r=Z.outs (os.take j) r++[r.getD os[j].toNat 0]:=by
 unfold Z.outs;rw[List.take_succ_eq_append_getElem h,List.map_append,List.map_cons,List.map_nil]
theorem BN {code:List ba}(h:Sn dc w (D A code.length cc) code)(Q:c0 w (D B os.length cb) os)(aM:Y (∀i∈code,i.n.bd 1000))(S:Y (Z.c9 code os ar par=true))(y:aF k w v ds)(u:ds.length=code.length)(bd:k<=1000000):
 aj ae 152 #[af #[D A code.length cc,D B os.length cb,H I ar,H I par],v] w (dT k (Z.outs os ds) w):=by
 obtain⟨aW,a5,rfl⟩:=y.form;have m:=G (io S.out);have a8:code.length<=300:=m.out.1.2.2.2.2.2;have bg:os.length<=6:=by have:=m.out.1;omega
 have ab:=G h;have C:=G Q;have au:=G y;have al:=G u;have aK:db ar:=by have:=m.out.1;unfold db;omega
 have bf:((code.length:Int) !=(code.length:Int))=false:=by simp
 clear h Q y;rw[u];clear u;go_enter func152,ntmps152;go_wp2_with fail;generalize P:ah w _=aZ at*;obtain⟨b,f⟩:=aC P;clear P;have t:=f.c4
 with_reducible refine(pj (ab.out.up (cV 0) b) (C.out.up b) (G λi aN=>pl (aM.out i aN) (by omega)) aK (by omega) (by omega)).mono ?_
 rintro az e ⟨rfl,u1⟩;revert b f t;revert u1;refine bX ?_;intro b f t;rw[S.out];have M:=G b;have ai:=G f;go_wp2_with fail;clear f b t
 go_loopw[5,7,22] (λaS _ z wr=> ∃a:Nat,z=H I (a:Int)/\a<=os.length/\aL k w wr aS (Z.outs (os.take a) ds)/\V w wr) (λ_ _ z _=>os.length-(aI z).toNat)
 case atStart=>exact⟨0,rfl,bn _,aA.nil _ _ _ _,M.out⟩
 case round=>
  clear M ai;obtain⟨a,rfl,bb,c,b⟩:=hrel
  by_cases x:a<os.length
  .obtain⟨a4,bl,aB,a7,c2⟩:=(C.out.up b).at_ x
   subst aB;have F:=G (m.out.2 _ (cq x));have K:Y (Z.outs (os.take (a+1)) ds=Z.outs (os.take a) ds++[ds.getD os[a].toNat 0]):=G (BM x ds);have L:Y ((Z.outs (os.take a) ds).length=a):=G (by unfold Z.outs;simp;omega);generalize os[a]=q at*;have bh:0<=q:=F.out.1;have bi:q<(code.length:Int):=F.out.2;have R:q.toNat<ds.length:=by have:=al.out;omega
   have ak:Y (ds.getD q.toNat 0=ds[q.toNat]):=G (by rw[bz,aT R];rfl);rw[ak.out]at K;obtain⟨a6,aQ,U,aO,aE,aa,aP,aG,aD,a9,aH,aJ,g3,l⟩:=(au.out.up b).lv R;subst aD;generalize ds[q.toNat]=d at*;have av:=l.2;have s:Fr wr (af #[J aQ,D U aO aE,D aa aP aG]) d k:=l.1.fr l.2;obtain⟨X,ay,rfl⟩:=c.form;rw[L.out]at c|-;have k1:(a:Int)<(os.length:Int):=by omega
   have bj:(0:Int)<=(a:Int):=by omega
   have bk:((a:Int)).toNat=a:=by omega
   have ax:=b;clear l;have b:V wr wr:=V.refl wr;have b:=V.refl wr;go_wp2_with fail
   with_reducible refine(dx s (by omega)).mono ?_
   rintro az e ⟨aX,rfl,r,u1⟩;revert s c b;revert u1;refine bX ?_;intro s c b
   obtain⟨a2,a3,rfl,r,T⟩:=r;obtain⟨g,o,cy,rfl⟩:=r.shape;obtain⟨j,p,n,rfl⟩:=T.shape;clear aH aJ g3 c2;have ag:Y (aL k w (e.alloc (ao #[J (E.aB d.num),D g o cy,D j p n] 53)) (D X a ay) (Z.outs (os.take a) ds)):=G (c.up ((V.refl e).alloc _));have an:Y (Qk k (e.alloc (ao #[J (E.aB d.num),D g o cy,D j p n] 53)) (af #[J (E.aB d.num),D g o cy,D j p n]) d):=G ⟨Qw.up (il r T) ((V.refl e).alloc _),av⟩;have aq:=G ((ax.trans b).alloc (ao #[J (E.aB d.num),D g o cy,D j p n] 53));go_wp2_with(at_builtin;refine fR (aR _) underlying44 d7 (w0:=w) rfl _ _ rfl rfl ag.out aq.out rfl (heap_alloc_new e _) an.out (by rw[L.out];omega) ?_;intro aY a1 N aV aU aw);rw[<-K.out]at N
   go_roundw
   case rel=>exact⟨a+1,by go_num,by omega,N,aw⟩
   case measure=>simp[aI];omega
  .obtain rfl:a=os.length:=by omega
   have k1:¬((os.length:Int)<(os.length:Int)):=by omega
   rw[co]at c;go_wp2;go_ret;exact⟨_,rfl,c,b⟩
theorem ea.up {r:bv×List Rat}(h:ea k r w e ab)(d:V w0 w):ea k r w0 e ab:=by
 obtain⟨a,h1,h2,b,c⟩:=h;exact⟨a,h1,h2,b,d.trans c⟩
instance ea.bW {k:Nat} {r:bv×List Rat} {w0 w:O} {e:aO} {ab:O}:Lu (V w0 w) (ea k r w e ab) (ea k r w0 e ab):=bu λu h=>h.up u
def eM (k:Nat)(w:O)(a:W)(r:bv×List Rat):Prop:=r.1=Z.aG->aF k w a r.2
theorem eM.up {k:Nat}{w ab:O}{bi:W}{r:bv×List Rat}(h:eM k w bi r)(b:V w ab):eM k ab bi r:=λa=>(h a).up b
instance eM.bW {k:Nat} {w ab:O} {bi:W} {r:bv×List Rat}:Lu (V w ab) (eM k w bi r) (eM k ab bi r):=bu λu h=>h.up u
theorem eM.stored {k:Nat}{w:O}{v x:W}{r:bv×List Rat}{S:an}{g i:Nat}{vs:List W}(h:eM k w v r)(hb:Bx S w g vs)(c:53≠S)(b:Kw w (w.setCell ⟨g,i,none⟩ x)):eM k (w.setCell ⟨g,i,none⟩ x) v r:=λa=>(h a).stored hb c b
theorem eM.bs {k:Nat}{w ab:O}{v:W}{r:bv×List Rat}{T:an}{g:Nat}{old new:List W}(h:eM k w v r)(b:Bs T g w ab old new)(c:53≠T:=by decide):eM k ab v r:=λa=>(h a).bs b c
theorem ea.mk {r:bv×List Rat}(h:eM k ab (D A n c) r)(a:V w ab):ea k r w (aw (aY #[D A n c,cJ r.1])) ab:=⟨_,rfl,h,⟨_,_,_,rfl⟩,a⟩
theorem V.up {a:O}(h:V a w)(b:V w ab):V a ab:=h.trans b
theorem tD {code:List ba}
 (h:Sn dc w (D A code.length cc) code)(R:c0 w (D B os.length cb) os)(aB:Y (∀i∈code,i.n.bd 1000))(T:Y (Z.c9 code os ar par=true))(Q:Y ((ys.length:Int)=ar))(S:Y ((ps.length:Int)=par))(aA: -9223372036854775808<=bits/\bits<=9223372036854775807)
 (n:Fr w (af #[J s,D A1 n1 c1,D D1 n2 c2]) t k)(o:aU ky w vy ys)(m:aU kp w vp ps)(aE:k<=200000)(aG:ky<=200000)(aF:kp<=200000):
 aj ae 151 #[af #[D A code.length cc,D B os.length cb,H I ar,H I par],af #[J s,D A1 n1 c1,D D1 n2 c2,vy,vp],H I bits] w (ea 130 (Z.run (Ga.a5 bits) t ys ps code []) w):=by
 have ab:=G n.lq;obtain⟨aQ,a8,rfl⟩:=o.form;obtain⟨B2,a9,rfl⟩:=m.form;have M:=G (io T.out);have a6:ys.length<=6:=by have:=M.out.1;have:=Q.out;omega
 have a7:ps.length<=6:=by have:=M.out.1;have:=S.out;omega
 have aH:=Ga.mI bits;obtain⟨r,L⟩:∃r,Y (Z.run (Ga.a5 bits) t ys ps code []=r):=⟨_,G rfl⟩;rw[L.out];have aa:=G h;have ai:=G R;clear h R;go_enter func151,ntmps151;go_wp2_with fail;generalize g:ah (ah (ah w _) _) _=aV at*;obtain⟨c,f,d,a⟩:=dm g;clear g;revert n o m;refine bo c ?_;intro n o m;have j:=f.c4;have l:=d.c5;have ax:=d.free;have e:=a.c4;have v:=a.free
 with_reducible refine(Bi n o m (by omega) (by omega) (by omega) (by omega) (by omega)).mono ?_
 rintro P aq ⟨u1,d1,aS,aR,rfl,p,y,z,u1⟩;obtain⟨aO,cy,rfl⟩:=y.form;obtain⟨aP,cz,rfl⟩:=z.form;obtain⟨aY,aZ,az,p,x⟩:=p;cases az;obtain⟨aM,bb,a3,rfl⟩:=p.shape;obtain⟨aN,bd,a5,rfl⟩:=x.shape;clear e;revert c f d a n o m j l;refine bE u1 ?_;intro c f d a n o m j l;replace ax:=d.free;have e:=a.c4;replace v:=a.free;clear u1;clear n o m;go_wp2_with fail;generalize g:ag (ag (ag (ag (ag aq _ _) _ _) _ _) _ _) _ _=F at*;have b:=e8 d g;clear g;replace p:=p.kw b.kw;replace y:=y.bs b;replace z:=z.bs b;replace x:=x.kw b.kw;replace f:=f.bs b;replace a:=a.bs b;replace d:=b.new;replace c:=c.bs b;clear b;clear j l e;have j:=f.c4;have l:=d.c5;have e:=a.c4;replace v:=a.free;have al:=G (il p x);have an:=G y;have ao:=G z;have E:=G c;have ak:=G a;clear p x y z;have q:V F F:=V.refl F
 with_reducible refine(kq aA _).mono ?_
 rintro P au ⟨g3,rfl,C,aD,u3⟩;revert f a d c j l q;refine bS u3 ?_;intro f a d c j l q;revert e;refine cj u3 ?_;intro e;replace v:=a.free;clear u3;have av:=ez j;have aw:=ez l;have aK:=ez e;have aL:=a.fa;go_wp2_with fail;clear av aw aK aL;generalize g:ah au _=aX at*;obtain⟨K,U⟩:=aC g;clear g;have a1:=f.lt;have a2:=d.lt;have bf:=a.lt;revert C f a d c j l q;refine b9 K ?_;intro C f a d c j l q;revert e;refine cj K ?_;intro e;replace v:=a.free;clear K;have aI:=U.c1
 ((with_reducible refine(BL q aD C (aa.out.up (cV 0) E.out) (ai.out.up E.out) aB T Q S aH al.out ab an.out ao.out aE aG aF).mono ?_))
 rintro P N ⟨aT,rfl,u,⟨X,aJ,ay,rfl⟩,u9⟩;rw[L.out]at u|-;have u:eM 130 N (D X aJ ay) r:=u;have a:=ak.out.up u9;have c:=E.out.trans u9;clear f d C U u9 q j l e v aI;have e:=a.c4;have v:=a.free;unfold cJ;go_wp2_with fail;generalize g:ag (ag (ag (ag N _ _) _ _) _ _) _ _=aW at*;have b:=bp a g;clear g;replace u:=u.bs b;replace a:=b.new;replace c:=c.bs b;clear b;clear e;have e:=a.c4;exact a4 (fl rfl rfl bM bN a rfl) rfl (ea.mk u c)
theorem pm (L:Int)(t:Rat)(y p:List Rat):∀(l:List ba) (f:List Rat),(Z.run L t y p l f).1=Z.aG\/((Z.run L t y p l f).1.1=3\/(Z.run L t y p l f).1.1=6)
 |[],f=> .inl rfl
 |m::l,f=>by
  unfold Z.run
  split
  .exact .inr (.inl rfl)
  .split
   .exact pm L t y p l _
   .exact .inr (.inr rfl)
theorem tE (L:Int)(t:Rat)(y p:List Rat):∀(l:List ba) (m:List Rat),(Z.run L t y p l m).1=Z.aG->(Z.run L t y p l m).2.length=m.length+l.length
 |[],m,f=>by simp[Z.run]
 |A::l,m,f=>by
  unfold Z.run at f|-
  split
  .rename_i a
   rw[a]at f;exact absurd (congrArg Prod.fst f) (show(3:Int)≠0 by decide)
  .rename_i b a
   rw[a]at f;simp only at f
   split
   .rename_i hb
    rw[if_pos hb]at f;rw[tE L t y p l _ f];simp;omega
   .rename_i hb
    rw[if_neg hb]at f;exact absurd (congrArg Prod.fst f) (show(6:Int)≠0 by decide)
theorem BO {code:List ba}
 (h:Sn dc w (D A code.length cc) code)(aN:c0 w (D B os.length cb) os)(aL:Y (∀i∈code,i.n.bd 1000))(aO:Y (Z.c9 code os ar par=true))(a6:Y ((ys.length:Int)=ar))(bd:Y ((ps.length:Int)=par))(a5: -9223372036854775808<=bits/\bits<=9223372036854775807)
 (aq:Fr w (af #[J s,D A1 n1 c1,D D1 n2 c2]) t k)(ak:aU ky w vy ys)(ai:aU kp w vp ps)(a7:k<=200000)(bb:ky<=200000)(a9:kp<=200000):
 aj ae 115 #[af #[D A code.length cc,D B os.length cb,H I ar,H I par],af #[J s,D A1 n1 c1,D D1 n2 c2,vy,vp],H I bits] w (ea 130 (Z.field (Ga.a5 bits) code os t ys ps) w):=by
 obtain⟨bi,bn,rfl⟩:=ak.form;obtain⟨B2,bq,rfl⟩:=ai.form;have aH:=G h;have aI:=G aN;obtain⟨r,an⟩:∃r,Y (Z.run (Ga.a5 bits) t ys ps code []=r):=⟨_,G rfl⟩;have av:=G (pm (Ga.a5 bits) t ys ps code []);have aw:=G (tE (Ga.a5 bits) t ys ps code []);have N:Y (Z.field (Ga.a5 bits) code os t ys ps=if r.1=Z.aG then(Z.aG,Z.outs os r.2)else(r.1,[])):=G (by unfold Z.field;rw[an.out]);rw[an.out]at av aw;obtain⟨au,aS⟩:∃au,Y (Z.field (Ga.a5 bits) code os t ys ps=au):=⟨_,G rfl⟩;rw[aS.out]at N|-;clear h aN;go_enter func115,ntmps115;go_wp2_with fail;generalize x:ah (ah (ah w _) _) _=bl at*;obtain⟨b,c,d,a⟩:=dm x;clear x;revert aq ak ai;refine bo b ?_;intro aq ak ai;have F:=c.c4;have K:=d.c5;have M:=a.c4;have Q:=a.free
 ((with_reducible refine(tD (aH.out.up (cV 0) b) (aI.out.up b) aL aO a6 bd a5 aq ak ai a7 bb a9).mono ?_))
 rintro a1 y ⟨bj,rfl,aB,⟨aG,aP,aK,rfl⟩,u1⟩;rw[an.out]at aB|-;have ax:Y (eM 130 y (D aG aP aK) r):=G aB;clear aB;clear aq ak ai;revert b c d a F K M;refine bS u1 ?_;intro b c d a F K M;replace Q:=a.free;clear u1;unfold cJ
 by_cases X:r.1=Z.aG
 .have N:Y (au=(Z.aG,Z.outs os r.2)):=G (by rw[N.out,if_pos X]);obtain⟨f,aQ⟩:=r;simp only at X;subst X;have C:aF 130 y (D aG aP aK) aQ:=ax.out rfl;clear ax;have aM:aQ.length=code.length:=by have:=aw.out rfl;simpa using this
  have aR:=G aM;obtain⟨_,_,a2⟩:=C.form;cases a2;clear aM av aw an;unfold Z.aG;simp only;have ay:=c.d4;have az:=d.d5;have aD:=a.d4;have aE:=a.fa;go_wp2_with fail;clear ay az aD aE;generalize x:ah y _=ao at*;obtain⟨al,n⟩:=aC x;clear x;have aV:=c.lt;have aY:=d.lt;have bf:=a.lt;revert b c d a F K M C;refine b9 al ?_;intro b c d a F K M C
  replace Q:=a.free;clear al;have aA:=n.c4;obtain⟨g,j,l,m⟩:=F;have z:=K;have E:=M;obtain⟨o,p,q,u⟩:=aA;clear o p q u;revert n b c d a C g j l m z;refine bC (V.refl ao).drew ?_;intro n b c d a C g j l m z
  have E:=a.c4;have Q:=a.free;obtain⟨o,p,q,u⟩:=n.c4;refine aZ ?_;refine a3 (S:=λe=>V w e/\e.cell? ⟨w.heap.size,0,none⟩=U (D A code.length cc)/\e.cell? ⟨w.heap.size,1,none⟩=U (D B os.length cb)/\e.cell? ⟨w.heap.size,2,none⟩=U (H I ar)/\e.cell? ⟨w.heap.size,3,none⟩=U (H I par)/\e.cell? ⟨y.heap.size,0,none⟩=U (H I 0)/\e.cell? ⟨y.heap.size,1,none⟩=U (H I 0)/\e.cell? ⟨y.heap.size,2,none⟩=U (H I 0)/\e.cell? ⟨y.heap.size,3,none⟩=U (H I 0)) (by kernel_rfl) ?_ (λP=> ?_)
  .with_reducible exact⟨b,g,j,l,m,o,p,q,u⟩
  refine aa 0 ?_;refine aa 1 ?_;refine aa 3 ?_;refine bZ 2 (λT L=> ?_);go_simp
  (first
    |(go_at_call 152
      with_reducible refine(BN (aH.out.up (cV 0) b) (aI.out.up b) aL aO C aR.out (by omega)).mono ?_
      rintro a1 aJ ⟨bk,rfl,R,u2⟩;clear o p q u;revert n b c d a C g j l m z;refine bC u2 ?_;intro n b c d a C g j l m z;revert E;refine cj u2 ?_;intro E
      try(replace R:=R.up u2)
      replace Q:=a.free;obtain⟨o,p,q,u⟩:=n.c4;clear u2;obtain⟨bh,c3,rfl⟩:=R.form))
  try go_wp2_with fail
  try clear P
  refine L.out _ _ ?_ (λP=> ?_)
  .with_reducible exact⟨b,g,j,l,m,o,p,q,u⟩
  clear L T
  try simp only[bc,bg]
  refine aa 4 ?_;refine bZ 5 (λT L=> ?_);go_simp;skip
  try go_wp2_with fail
  try clear P
  refine L.out _ _ ?_ (λP=> ?_)
  ·(first|with_reducible exact⟨b,g,j,l,m,o,p,q,u⟩|((try simp only[<-World.setCell_drew]);first|with_reducible exact⟨(us (us (us (us b)))),(cf (cf (cf (cf g)))),(cf (cf (cf (cf j)))),(cf (cf (cf (cf l)))),(cf (cf (cf (cf m)))),(cf (cf (cf (cf o)))),(cf (cf (cf (cf p)))),(cf (cf (cf (cf q)))),(cf (cf (cf (cf u))))⟩))
  clear L T
  try simp only[bc,bg]
  refine aW (by kernel_rfl) ?_ _;refine aX ?_;clear C;generalize x:ag (ag (ag (ag aJ _ _) _ _) _ _) _ _=bm at*;have v:=bp a x;clear x;replace R:=R.bs v;replace c:=c.bs v;replace d:=d.bs v;replace n:=n.bs v;replace a:=v.new;replace b:=b.bs v;clear v;clear g j l m z E o p q u;obtain⟨g,j,l,m⟩:=c.c4;have z:=d.c5;have E:=a.c4;obtain⟨o,p,q,u⟩:=n.c4;go_wp2_with fail;have aT:=R.a;exact a4 (fl rfl rfl bM bN a rfl) rfl (ea.bV N.out aT b)
 .have N:Y (au=(r.1,[])):=G (by rw[N.out,if_neg X])
  have a8:(r.1.1==0)=false:=by
   rw[beq_eq_false_iff_ne];rcases av.out with ab|ab|ab
   .exact absurd ab X
   .rw[ab];decide
   .rw[ab];decide
  clear ax;have ay:=c.d4;have az:=d.d5;have aD:=a.d4;have aE:=a.fa;go_wp2_with fail;clear ay az aD aE;generalize x:ah y _=ao at*;obtain⟨al,n⟩:=aC x;clear x;have aV:=c.lt;have aY:=d.lt;have bf:=a.lt;revert b c d a F K M;refine bS al ?_;intro b c d a F K M
  replace Q:=a.free;clear al;have aA:=n.c4;obtain⟨g,j,l,m⟩:=F;have z:=K;have E:=M;obtain⟨o,p,q,u⟩:=aA;clear o p q u;revert n b c d a g j l m z;refine bw (V.refl ao).drew ?_;intro n b c d a g j l m z
  have E:=a.c4;have Q:=a.free;obtain⟨o,p,q,u⟩:=n.c4;refine aZ ?_;refine a3 (S:=λe=>V w e/\e.cell? ⟨w.heap.size,0,none⟩=U (D A code.length cc)/\e.cell? ⟨w.heap.size,1,none⟩=U (D B os.length cb)/\e.cell? ⟨w.heap.size,2,none⟩=U (H I ar)/\e.cell? ⟨w.heap.size,3,none⟩=U (H I par)/\e.cell? ⟨y.heap.size,0,none⟩=U (H I r.1.1)/\e.cell? ⟨y.heap.size,1,none⟩=U (H I r.1.2.1)/\e.cell? ⟨y.heap.size,2,none⟩=U (H I r.1.2.2.1)/\e.cell? ⟨y.heap.size,3,none⟩=U (H I r.1.2.2.2)) (by kernel_rfl) ?_ (λP=> ?_)
  .with_reducible exact⟨b,g,j,l,m,o,p,q,u⟩
  refine aa 0 ?_;refine aa 1 ?_;refine bZ 2 (λT L=> ?_);go_simp;skip
  try go_wp2_with fail
  try clear P
  refine L.out _ _ ?_ (λP=> ?_)
  ·(first|with_reducible exact⟨b,g,j,l,m,o,p,q,u⟩|((try simp only[<-World.setCell_drew]);first|with_reducible exact⟨(us (us (us (us b)))),(cf (cf (cf (cf g)))),(cf (cf (cf (cf j)))),(cf (cf (cf (cf l)))),(cf (cf (cf (cf m)))),(cf (cf (cf (cf o)))),(cf (cf (cf (cf p)))),(cf (cf (cf (cf q)))),(cf (cf (cf (cf u))))⟩))
  clear L T
  try simp only[bc,bg]
  refine aW (by kernel_rfl) ?_ _;refine aX ?_;simp only[<-World.setCell_drew];generalize x:ag (ag (ag (ag (ao.drew) _ _) _ _) _ _) _ _=aJ at*;have v:=bp a x;clear x;replace c:=c.bs v;replace d:=d.bs v;replace n:=n.bs v;replace a:=v.new;replace b:=b.bs v;clear v;clear g j l m z E o p q u;obtain⟨g,j,l,m⟩:=c.c4;have z:=d.c5;have E:=a.c4;obtain⟨o,p,q,u⟩:=n.c4;go_wp2_with fail;exact a4 (fl rfl rfl bM bN a rfl) rfl (ea.bad (f:=r.1) N.out (by simpa using a8) b)
def bV (r:ay):Bool:=d0 r.1 (E.aB r.val.num) r.2.1 (E.words r.val.num.natAbs) r.2.2 (E.words r.val.den)&&decide (E.bD (E.val r.2.1)+E.bD (E.val r.2.2)<=190)
theorem pn (h:Fr w v q k)(A:k<=1000000):aj ae 107 #[v] w λe s=>e=aw (J (decide (0<q)))/\V w s:=by
 have g:=G (Pc.jt q);obtain⟨t,rfl,⟨d,o,c1,l⟩,⟨f,p,c2,m⟩⟩:=(bF k).form h;obtain⟨r,u0,z⟩:=t;simp only at l m;subst l m;have a:Fr w (af #[J r,D d o c1,D f p c2]) q k:=h;clear h;obtain⟨B,i⟩:∃u,Y (E.bU q.num=u):=⟨_,G rfl⟩;rw[i.out]at g;show aj ae 107 #[af #[J r,D d o c1,D f p c2]] w _;go_enter func107,ntmps107;go_wp2_with fail;generalize n:ah w _=x at*;obtain⟨b,c⟩:=aC n;clear n;replace a:=a.up b;have j:=c.c3;go_wp2_with fail
 with_reducible refine(fQ a (by omega)).mono ?_
 rintro e y ⟨rfl,u1⟩;revert b c a j;revert u1;refine dW ?_;intro b c a j;rw[i.out];go_wp2;go_ret;exact⟨by rw[<-g.out];rfl,b⟩
theorem mH {rs:List ay}(b:j<rs.length)(h:∀r∈rs.take j,bV r=true)(h1:bV rs[j]=true):∀r∈rs.take (j+1),bV r=true:=by
 intro r a;rw[List.take_succ_eq_append_getElem b]at a;rcases List.mem_append.1 a with a|a
 .exact h r a
 .simp at a;subst a;exact h1
theorem BP {rs:List ay}(h:Sq Rw w v rs)(aE:rs.length<=1000)(Z:Y (∀r∈rs,r.bd 1000)):aj ae 106 #[v] w λe al=>e=aw (J (rs.all bV))/\V w al:=by
 obtain⟨am,ax,rfl⟩:=h.form;have M:=G h;clear h;go_enter func106,ntmps106;go_wp2
 go_loopw[4,7] (λ_ t wr=> ∃b:Nat,t=H I b/\b<=rs.length/\Y (∀r∈rs.take b,bV r=true)/\V w wr) (λ_ t _=>rs.length-(aI t).toNat)
 case atStart=>exact⟨0,rfl,bn _,G (by simp),V.refl w⟩
 case round=>
  obtain⟨b,rfl,aD,y,c⟩:=hrel
  by_cases n:b<rs.length
  .obtain⟨av,o,k,B,aL,S,ai,aH,T,rfl,hb,U,X,g3,ab⟩:=(M.out.up cG c).at_ cG n
   have R:=G λa=>mH n y.out a
   have P:=G (cq n);have z:=G (Z.out rs[b] (cq n));generalize rs[b]=r at*;obtain⟨aJ,f,g⟩:=r;obtain⟨aK,az,e,a,d⟩:=ab;obtain⟨an,c1,rfl⟩:=a.form;obtain⟨ao,c2,rfl⟩:=d.form;simp at e;obtain⟨rfl,⟨rfl,rfl,rfl⟩,rfl,rfl,rfl⟩:=e;have a:Ws wr (D B f.length S) f:=a;have d:Ws wr (D ai g.length T) g:=d;have aA:f.length<=1000:=z.out.1;have aB:g.length<=1000:=z.out.2;have k1:(b:Int)<(rs.length:Int):=by omega
   have aF:(0:Int)<=(b:Int):=by omega
   have aG:((b:Int)).toNat=b:=by omega
   have x:Y (bV (k,f,g)=false->rs.all bV=false):=G (λaa=>List.all_eq_false.2 ⟨(k,f,g),P.out,by rw[aa];simp⟩);obtain⟨q,s⟩:∃q,mkRat (E.iv k (E.val f)) (E.val g)=q:=⟨_,rfl⟩;obtain⟨L,C⟩:∃ak,Y (d0 k (E.aB q.num) f (E.words q.num.natAbs) g (E.words q.den)=ak):=⟨_,G rfl⟩;have l:Y (bV (k,f,g)=(L&&decide (E.bD (E.val f)+E.bD (E.val g)<=190))):=G (by rw[<-C.out,<-s];rfl);obtain⟨i,A⟩:∃i,Y (E.bD (E.val f)+E.bD (E.val g)=i):=⟨_,G rfl⟩;rw[A.out]at l;go_wp2_with fail;generalize K:ah wr _=aq at*;obtain⟨ag,j⟩:=aC K;clear K;revert c a d;revert ag;refine bX ?_;intro c a d
   have m:=j.c3
   with_reducible refine(mQ a d s (by omega) (by omega)).mono ?_
   rintro e ar ⟨rfl,u52⟩;revert j c a d m;revert u52;refine dH ?_;intro j c a d m
   rw[C.out];clear U X g3 s;cases L
   .have u:=x.out (by rw[l.out];rfl);have p:=G u;clear u;go_wp2;go_ret;exact⟨by rw[p.out];rfl,c⟩
   .skip;go_wp2_with fail
    with_reducible refine(oH a d (by omega) (by omega)).mono ?_
    rintro e au ⟨rfl,u53⟩;revert j c a d m;revert u53;refine dH ?_;intro j c a d m
    rw[A.out]
    by_cases F:i<=190
    .have Q:=G (R.out (by rw[l.out,decide_eq_true F];rfl));have af:¬((i:Int)>190):=by omega
     go_wp2_with fail
     go_roundw
     case rel=>exact⟨b+1,by first|rfl|go_num,by omega,Q,c⟩
     case measure=>simp[aI];omega
    .have p:=G (x.out (by rw[l.out,decide_eq_false F];rfl));have af:(i:Int)>190:=by omega
     go_wp2;go_ret;exact⟨by rw[p.out];rfl,c⟩
  .obtain rfl:b=rs.length:=by omega
   have N:Y (rs.all bV=true):=G (List.all_eq_true.2 (by
    have:=y.out
    rwa [co]at this))
   go_wp2;go_ret;exact⟨by rw[N.out];rfl,c⟩
def Z.gY (ls:List (List ay)):Bool:=ls.all λl=>l.all bV
theorem BQ {b:List (List ay)}(c:j<b.length)(h:∀l∈b.take j,l.all bV=true)(h1:b[j].all bV=true):∀l∈b.take (j+1),l.all bV=true:=by
 intro r a;rw[List.take_succ_eq_append_getElem c]at a;rcases List.mem_append.1 a with a|a
 .exact h r a
 .simp at a;subst a;exact h1
theorem tF {a:List (List ay)}(h:cU Rw w v a)(a6:a.length<=1000)(aF:Y (∀l∈a,l.length<=1000))(aE:Y (∀l∈a,∀r∈l,r.bd 1000)):aj ae 142 #[v] w λe aP=>e=aw (J (Z.gY a))/\V w aP:=by
 obtain⟨aQ,aY,rfl⟩:=h.form;have ag:=G h;clear h;go_enter func142,ntmps142;go_wp2_with fail
 go_loopw[4,6,9] (λ_ _ N wr=> ∃c:Nat,N=H I (c:Int)/\c<=a.length/\Y (∀l∈a.take c,l.all bV=true)/\V w wr) (λ_ _ N _=>a.length-(aI N).toNat)
 case atStart=>exact⟨0,rfl,bn _,G (by simp),V.refl w⟩
 case round=>
  obtain⟨c,rfl,a4,A,b⟩:=hrel
  by_cases j:c<a.length
  .obtain⟨ax,aN,bg,az,aD,x,L⟩:=ag.out.at_ j;subst az;have C:_:=(b.cell (p:=⟨ax,aN+c,none⟩) aD).trans x;obtain⟨aW,aZ,rfl⟩:=L.form;have ao:=G L;have al:=G λd=>BQ j A.out d
   have au:=G (cq j);have aq:=G (aE.out a[c] (cq j));have ar:=G (aF.out a[c] (cq j));have S:Y (c+1<=a.length):=G j;generalize a[c]=g at*;have ak:Y (g.all bV=false->Z.gY a=false):=G (λF=>List.all_eq_false.2 ⟨g,au.out,by rw[F];simp⟩);have aJ:(c:Int)<(a.length:Int):=by omega
   have aH:(0:Int)<=(c:Int):=by omega
   have aK:((c:Int)).toNat=c:=by omega
   have a7:=ar.out;have X:=G b;clear A x L b;go_wp2_with fail;clear aJ aH aK C
   go_loopw[6,15] (λ_ M wr=> ∃f:Nat,M=H I (f:Int)/\f<=g.length/\Y (∀r∈g.take f,bV r=true)/\V w wr) (λ_ M _=>g.length-(aI M).toNat)
   case atStart=>exact⟨0,rfl,bn _,G (by simp),X.out⟩
   case round=>
    clear X;obtain⟨f,rfl,a5,Q,b⟩:=hrel
    by_cases j:f<g.length
    .obtain⟨aX,o,s,B,bf,aA,ai,ba,aB,rfl,hb,x,C,g3,aG⟩:=(ao.out.up cG b).at_ cG j
     have av:=G λd=>mH j Q.out d
     have am:=G (cq j);have R:=G (aq.out g[f] (cq j));generalize g[f]=r at*;obtain⟨bb,l,k⟩:=r;obtain⟨bd,a1,e,d,i⟩:=aG;obtain⟨aR,c1,rfl⟩:=d.form;obtain⟨aS,c2,rfl⟩:=i.form;simp at e;obtain⟨rfl,⟨rfl,rfl,rfl⟩,rfl,rfl,rfl⟩:=e;have d:Ws wr (D B l.length aA) l:=d;have i:Ws wr (D ai k.length aB) k:=i;have a2:l.length<=1000:=R.out.1;have a3:k.length<=1000:=R.out.2;have k1:(f:Int)<(g.length:Int):=by omega
     have a8:(0:Int)<=(f:Int):=by omega
     have a9:((f:Int)).toNat=f:=by omega
     have P:Y (bV (s,l,k)=false->Z.gY a=false):=G (λF=>ak.out (List.all_eq_false.2 ⟨(s,l,k),am.out,by rw[F];simp⟩));obtain⟨q,K⟩:∃q,mkRat (E.iv s (E.val l)) (E.val k)=q:=⟨_,rfl⟩;obtain⟨af,U⟩:∃aO,Y (d0 s (E.aB q.num) l (E.words q.num.natAbs) k (E.words q.den)=aO):=⟨_,G rfl⟩;have t:Y (bV (s,l,k)=(af&&decide (E.bD (E.val l)+E.bD (E.val k)<=190))):=G (by rw[<-U.out,<-K];rfl);obtain⟨m,T⟩:∃m,Y (E.bD (E.val l)+E.bD (E.val k)=m):=⟨_,G rfl⟩;rw[T.out]at t;go_wp2_with fail;generalize ab:ah wr _=aT at*;obtain⟨aM,n⟩:=aC ab;clear ab;revert b d i;revert aM;refine bX ?_;intro b d i
     have u:=n.c3
     with_reducible refine(mQ d i K (by omega) (by omega)).mono ?_
     rintro e aU ⟨rfl,u52⟩;revert n b d i u;revert u52;refine dH ?_;intro n b d i u
     rw[U.out];clear x C g3 K;cases af
     .have y:=G (P.out (by rw[t.out];rfl));go_wp2;go_ret;exact⟨by rw[y.out];rfl,b⟩
     .skip;go_wp2_with fail
      with_reducible refine(oH d i (by omega) (by omega)).mono ?_
      rintro e aV ⟨rfl,u53⟩;revert n b d i u;revert u53;refine dH ?_;intro n b d i u
      rw[T.out]
      by_cases aa:m<=190
      .have an:=G (av.out (by rw[t.out,decide_eq_true aa];rfl));have aL:¬((m:Int)>190):=by omega
       go_wp2_with fail
       go_roundw
       case rel=>exact⟨f+1,by first|rfl|go_num,by omega,an,b⟩
       case measure=>simp[aI];omega
      .have y:=G (P.out (by rw[t.out,decide_eq_false aa];rfl));have aL:(m:Int)>190:=by omega
       go_wp2;go_ret;exact⟨by rw[y.out];rfl,b⟩
    .obtain rfl:f=g.length:=by omega
     have k1:¬((g.length:Int)<(g.length:Int)):=by omega
     have z:=G (al.out (List.all_eq_true.2 (by
      have:=Q.out
      rwa [co]at this)))
     go_wp2_with fail
     go_roundw
     case rel=>exact⟨c+1,by first|rfl|go_num,S.out,z,b⟩
     case measure=>have:=S.out;simp[aI];omega
  .obtain rfl:c=a.length:=by omega
   have k1:¬((a.length:Int)<(a.length:Int)):=by omega
   have z:Y (Z.gY a=true):=G (List.all_eq_true.2 (by
    have:=A.out
    rwa [co]at this))
   go_wp2;go_ret;exact⟨by rw[z.out];rfl,b⟩
theorem po {K:Nat}(h:aU ka w v qs)(a5:qs.length<=1000)(a4:ka<=1000000)(R:Y (∀j,E.Lq (qs.take j).sum K))(a2:K<=1000000):aj ae 144 #[v] w (dq qs.sum w):=by
 obtain⟨aa,ar,rfl⟩:=h.form;have ab:=G h;clear h;show aj ae 144 #[D aa qs.length ar] w _;go_enter func144,ntmps144;go_wp2_with fail;generalize d:ah w _=aO at*;obtain⟨c,a⟩:=aC d;clear d;have e:=a.c3;have m:=a.free;go_wp2_with fail
 with_reducible refine(g9 _).mono ?_
 rintro au r ⟨aM,rfl,o,u1⟩;revert c a e;refine bo u1 ?_;intro c a e;replace m:=a.free;clear u1;obtain⟨ao,S⟩:∃an,Y ((0:Rat)=an):=⟨_,G rfl⟩;rw[S.out]at o;obtain⟨aS,aV,rfl,o,s⟩:=o;obtain⟨aG,no,aY,rfl⟩:=o.shape;obtain⟨aH,a8,aZ,rfl⟩:=s.shape;have L:=a.d3;have M:=a.fa;go_wp2_with fail;clear L M;generalize d:ah r _=aP at*;obtain⟨n,b⟩:=aC d;clear d;have bf:=a.lt;have bg:¬(w.heap.size=r.heap.size):=by omega
 have bb:¬(r.heap.size=w.heap.size):=by omega
 revert c a e o s;refine b8 n ?_;intro c a e o s;replace m:=a.free;clear n;have t:=b.c3;have Q:=b.free
 go_loopw[9] (λP wr=> ∃(j:Nat) (N:Bool) (x y:Option am) (C z F A:Nat),P=H I (j:Int)/\j<=qs.length/\Bx 53 wr r.heap.size [J N,D x C z,D y F A]/\Qw wr (af #[J N,D x C z,D y F A]) ((qs.take j).sum)/\Bx 53 wr w.heap.size [J false,D none 0 0,D none 0 0]/\V w wr) (λP _=>qs.length-(aI P).toNat)
 case atStart=>exact⟨0,_,_,_,_,_,_,_,rfl,bn _,b,by rw[show(qs.take 0).sum=ao from S.out];exact⟨_,_,rfl,o,s⟩,a,c⟩
 case round=>
  obtain⟨j,N,x,y,C,z,F,A,rfl,a3,b,g,a,c⟩:=hrel;have e:=a.c3;have m:=a.free;have t:=b.c3;have Q:=b.free
  by_cases X:j<qs.length
  .skip;obtain⟨aX,o,aD,B,aA,aw,ai,aB,ax,av,hb,ay,az,g3,f⟩:=(ab.out.up c).at_ (bF ka) X
   subst av;have ak:Y ((qs.take (j+1)).sum=(qs.take j).sum+qs[j]):=G (by rw[List.take_succ_eq_append_getElem X,List.sum_append,List.sum_cons,List.sum_nil,Rat.add_zero]);have al:=R.out j;have aL:=R.out (j+1);generalize qs[j]=q at*;generalize(qs.take j).sum=p at*;have f:Fr wr (af #[J aD,D B aA aw,D ai aB ax]) q ka:=f;obtain⟨bQ,T⟩:∃bQ,Y (p+q=bQ):=⟨_,G rfl⟩;have k1:(j:Int)<(qs.length:Int):=by omega
   have a6:(0:Int)<=(j:Int):=by omega
   have a7:((j:Int)).toNat=j:=by omega
   have L:=a.d3;have M:=a.fa;have aE:=b.d3;have aF:=b.fa;go_wp2_with fail;clear L M aE aF;generalize d:ah wr _=aQ at*;obtain⟨n,k⟩:=aC d;clear d;have bd:=a.lt;have bh:=b.lt;revert b a c e g f;refine bO n ?_;intro b a c e g f
   replace m:=a.free;replace t:=b.c3;replace Q:=b.free;clear n;have U:=k.c3;clear ay az g3;go_wp2_with fail
   with_reducible refine(gc (g.fr al) f (by omega) (by omega)).mono ?_
   rintro au aq ⟨aN,rfl,l,u52⟩;revert k b a c e g f;refine bS u52 ?_;intro k b a c e g f
   replace m:=a.free;replace t:=b.c3;replace Q:=b.free;replace U:=k.c3;clear u52;rw[T.out]at l;obtain⟨aT,aW,rfl,l,u⟩:=l;obtain⟨aJ,a9,cz,rfl⟩:=l.shape;obtain⟨aK,ba,a1,rfl⟩:=u.shape;clear g f;go_wp2_with fail;generalize d:ag (ag (ag aq _ _) _ _) _ _=aR at*;have i:=dh b d;clear d;replace l:=l.kw i.kw;replace u:=u.kw i.kw;replace a:=a.bs i;replace k:=k.bs i;replace b:=i.new;replace c:=c.bs i;clear i;replace e:=a.c3;replace m:=a.free;replace t:=b.c3;replace U:=k.c3
   go_roundw
   case rel=>exact⟨j+1,_,_,_,_,_,_,_,by go_num,by omega,b,by rw[ak.out,T.out];exact⟨_,_,rfl,l,u⟩,a,c⟩
   case measure=>simp[aI]<;>omega
  .skip;obtain rfl:j=qs.length:=by omega
   rw[co]at g;go_wp2_with fail;exact di rfl rfl rfl g a trivial trivial trivial c (by omega)
def Z.eY (a b ne:Nat)(la:List Nat):Bool:=decide (1<=a/\a<=8/\b=a/\la.length=a/\(ne=a\/ne=0)/\la=List.range la.length)
theorem pp (h:i<la.length)(b:la.take i=List.range i)(a:la[i]=i):la.take (i+1)=List.range (i+1):=by
 rw[List.take_succ_eq_append_getElem h,b,a,List.range_succ]
theorem pq (h:i<la.length)(c:la[i]≠i):la≠List.range la.length:=λb=>c (by
 have a:la[i]? =(List.range la.length)[i]? :=by rw[<-b]
 rw[List.getElem?_range h,aT h]at a;exact Option.some.inj a)
theorem BR {P:O->W->α->Prop}(aA:Kp P){nm:ByteArray}{C ai:Option am}{nc ca nb ne ce:Nat}{rs:List (List α)}(h:cU P w (D A rs.length ca) rs)(ay:rs.length<=1000000):
 aj ae 141 #[af #[al nm,D C nc cc,D A rs.length ca,D B nb cb,D ai ne ce]] w λe ax=>e=aw (J (Z.eY nb nc ne (rs.map List.length)))/\V w ax:=by
 have R:=G h;clear h
 by_cases M:1<=nb
 rotate_left
 .have d:Y (Z.eY nb nc ne (rs.map List.length)=false):=G (decide_eq_false λm=>M m.1);have k1:(nb:Int)<1:=by omega
  clear M;go_enter func141,ntmps141;go_wp2_with fail;generalize c:ah w _=t at*;obtain⟨b,f⟩:=aC c;clear c;have o:=f.c5;go_ret;exact⟨by rw[d.out];rfl,b⟩
 by_cases S:nb<=8
 rotate_left
 .have d:Y (Z.eY nb nc ne (rs.map List.length)=false):=G (decide_eq_false λm=>S m.2.1);have k1:¬((nb:Int)<1):=by omega
  have k2:(nb:Int)>8:=by omega
  clear M S;go_enter func141,ntmps141;go_wp2_with fail;generalize c:ah w _=t at*;obtain⟨b,f⟩:=aC c;clear c;have o:=f.c5;go_ret;exact⟨by rw[d.out];rfl,b⟩
 have k1:¬((nb:Int)<1):=by omega
 have k2:¬((nb:Int)>8):=by omega
 clear M S
 by_cases T:nc=nb
 rotate_left
 .have d:Y (Z.eY nb nc ne (rs.map List.length)=false):=G (decide_eq_false λm=>T m.2.2.1);have au:((nc:Int) !=(nb:Int))=true:=by rw[bne_iff_ne];omega
  clear T;go_enter func141,ntmps141;go_wp2_with fail;generalize c:ah w _=t at*;obtain⟨b,f⟩:=aC c;clear c;have o:=f.c5;go_ret;exact⟨by rw[d.out];rfl,b⟩
 subst T;have au:((nc:Int) !=(nc:Int))=false:=bne_self_eq_false' _
 by_cases N:rs.length=nc
 rotate_left
 .have d:Y (Z.eY nc nc ne (rs.map List.length)=false):=G (decide_eq_false λm=>N (by simpa using m.2.2.2.1));have av:((rs.length:Int) !=(nc:Int))=true:=by rw[bne_iff_ne];omega
  clear N;go_enter func141,ntmps141;go_wp2_with fail;generalize c:ah w _=t at*;obtain⟨b,f⟩:=aC c;clear c;have o:=f.c5;go_ret;exact⟨by rw[d.out];rfl,b⟩
 have aq:=G N;have av:((rs.length:Int) !=(nc:Int))=false:=by rw[bne_eq_false_iff_eq];omega
 clear N
 by_cases y:ne=nc\/ne=0
 rotate_left
 .have d:Y (Z.eY nc nc ne (rs.map List.length)=false):=G (decide_eq_false λm=>y m.2.2.2.2.1);have az:((ne:Int) !=(nc:Int))=true:=by rw[bne_iff_ne];omega
  have k6:((ne:Int) !=0)=true:=by rw[bne_iff_ne];omega
  clear y;go_enter func141,ntmps141;go_wp2_with fail;generalize c:ah w _=t at*;obtain⟨b,f⟩:=aC c;clear c;have o:=f.c5;go_ret;exact⟨by rw[d.out];rfl,b⟩
 have u:Y (Z.eY nc nc ne (rs.map List.length)=decide (rs.map List.length=List.range rs.length)):=G (decide_eq_decide.2 (by
  have:=aq.out;simp only[List.length_map];constructor
  .exact λm=>m.2.2.2.2.2
  .exact λm=>⟨by omega,by omega,trivial,this,y,m⟩))
 have ar:=G y;clear y;rcases ar.out with Q|Q
 .have k6:((ne:Int) !=(nc:Int))=false:=by rw[bne_eq_false_iff_eq];omega
  clear Q;go_enter func141,ntmps141;go_wp2_with fail;generalize c:ah w _=t at*;obtain⟨b,f⟩:=aC c;clear c;have o:=f.c5;have q:=G b;clear b f o
  go_loopw[4,5,45] (λ_ _ n wr=> ∃a:Nat,n=H I (a:Int)/\a<=rs.length/\Y ((rs.map List.length).take a=List.range a)/\V w wr) (λ_ _ n _=>rs.length-(aI n).toNat)
  case atStart=>exact⟨0,rfl,bn _,G (by simp),q.out⟩
  case round=>
   clear q;obtain⟨a,rfl,ag,j,b⟩:=hrel
   by_cases l:a<rs.length
   .obtain⟨v,L,ao,x,z,r,s⟩:=R.out.at_ l;subst x;have aa:_:=(b.cell (p:=⟨v,L+a,none⟩) z).trans r;obtain⟨U,X,rfl⟩:=s.form;have i:Y ((rs.map List.length)[a]'(by simpa using l)=rs[a].length):=G (by simp);have E:(a:Int)<(rs.length:Int):=by omega
    have ak:(0:Int)<=(a:Int):=by omega
    have an:((a:Int)).toNat=a:=by omega
    clear s r
    by_cases k:rs[a].length=a
    .have g:=G (pp (la:=rs.map List.length) (by simpa using l) j.out (by rw[i.out];exact k));have F:((rs[a].length:Int) !=(a:Int))=false:=by rw[bne_eq_false_iff_eq];omega
     clear j k i;generalize rs[a].length=K at*;go_wp2_with fail
     go_roundw
     case rel=>exact⟨a+1,by first|rfl|go_num,by omega,g,b⟩
     case measure=>simp[aI];omega
    .have g:=pq (la:=rs.map List.length) (by simpa using l) (by rw[i.out];exact k);rw[List.length_map]at g;have d:Y (Z.eY nc nc ne (rs.map List.length)=false):=G (by rw[u.out];exact decide_eq_false g);have F:((rs[a].length:Int) !=(a:Int))=true:=by rw[bne_iff_ne];omega
     clear j k i g;generalize rs[a].length=K at*;go_wp2;go_ret;exact⟨by rw[d.out];rfl,b⟩
   .obtain rfl:a=rs.length:=by omega
    have E:¬((rs.length:Int)<(rs.length:Int)):=by omega
    have d:Y (Z.eY nc nc ne (rs.map List.length)=true):=G (by
     rw[u.out];have:=j.out;rw[List.take_of_length_le (by simp)]at this;exact decide_eq_true this)
    go_wp2;go_ret;exact⟨by rw[d.out];rfl,b⟩
 .have k7:((ne:Int) !=0)=false:=by rw[bne_eq_false_iff_eq];omega
  by_cases ab:ne=nc
  .have k6:((ne:Int) !=(nc:Int))=false:=by rw[bne_eq_false_iff_eq];omega
   clear Q ab;go_enter func141,ntmps141;go_wp2_with fail;generalize c:ah w _=t at*;obtain⟨b,f⟩:=aC c;clear c;have o:=f.c5;have q:=G b;clear b f o
   go_loopw[4,5,45] (λ_ _ n wr=> ∃a:Nat,n=H I (a:Int)/\a<=rs.length/\Y ((rs.map List.length).take a=List.range a)/\V w wr) (λ_ _ n _=>rs.length-(aI n).toNat)
   case atStart=>exact⟨0,rfl,bn _,G (by simp),q.out⟩
   case round=>
    clear q;obtain⟨a,rfl,ag,j,b⟩:=hrel
    by_cases l:a<rs.length
    .obtain⟨v,L,ao,x,z,r,s⟩:=R.out.at_ l;subst x;have aa:_:=(b.cell (p:=⟨v,L+a,none⟩) z).trans r;obtain⟨U,X,rfl⟩:=s.form;have i:Y ((rs.map List.length)[a]'(by simpa using l)=rs[a].length):=G (by simp);have E:(a:Int)<(rs.length:Int):=by omega
     have ak:(0:Int)<=(a:Int):=by omega
     have an:((a:Int)).toNat=a:=by omega
     clear s r
     by_cases k:rs[a].length=a
     .have g:=G (pp (la:=rs.map List.length) (by simpa using l) j.out (by rw[i.out];exact k));have F:((rs[a].length:Int) !=(a:Int))=false:=by rw[bne_eq_false_iff_eq];omega
      clear j k i;generalize rs[a].length=K at*;go_wp2_with fail
      go_roundw
      case rel=>exact⟨a+1,by first|rfl|go_num,by omega,g,b⟩
      case measure=>simp[aI];omega
     .have g:=pq (la:=rs.map List.length) (by simpa using l) (by rw[i.out];exact k);rw[List.length_map]at g;have d:Y (Z.eY nc nc ne (rs.map List.length)=false):=G (by rw[u.out];exact decide_eq_false g);have F:((rs[a].length:Int) !=(a:Int))=true:=by rw[bne_iff_ne];omega
      clear j k i g;generalize rs[a].length=K at*;go_wp2;go_ret;exact⟨by rw[d.out];rfl,b⟩
    .obtain rfl:a=rs.length:=by omega
     have E:¬((rs.length:Int)<(rs.length:Int)):=by omega
     have d:Y (Z.eY nc nc ne (rs.map List.length)=true):=G (by
      rw[u.out];have:=j.out;rw[List.take_of_length_le (by simp)]at this;exact decide_eq_true this)
     go_wp2;go_ret;exact⟨by rw[d.out];rfl,b⟩
  .have k6:((ne:Int) !=(nc:Int))=true:=by rw[bne_iff_ne];omega
   clear Q ab;go_enter func141,ntmps141;go_wp2_with fail;generalize c:ah w _=t at*;obtain⟨b,f⟩:=aC c;clear c;have o:=f.c5;have q:=G b;clear b f o
   go_loopw[4,5,45] (λ_ _ n wr=> ∃a:Nat,n=H I (a:Int)/\a<=rs.length/\Y ((rs.map List.length).take a=List.range a)/\V w wr) (λ_ _ n _=>rs.length-(aI n).toNat)
   case atStart=>exact⟨0,rfl,bn _,G (by simp),q.out⟩
   case round=>
    clear q;obtain⟨a,rfl,ag,j,b⟩:=hrel
    by_cases l:a<rs.length
    .obtain⟨v,L,ao,x,z,r,s⟩:=R.out.at_ l;subst x;have aa:_:=(b.cell (p:=⟨v,L+a,none⟩) z).trans r;obtain⟨U,X,rfl⟩:=s.form;have i:Y ((rs.map List.length)[a]'(by simpa using l)=rs[a].length):=G (by simp);have E:(a:Int)<(rs.length:Int):=by omega
     have ak:(0:Int)<=(a:Int):=by omega
     have an:((a:Int)).toNat=a:=by omega
     clear s r
     by_cases k:rs[a].length=a
     .have g:=G (pp (la:=rs.map List.length) (by simpa using l) j.out (by rw[i.out];exact k));have F:((rs[a].length:Int) !=(a:Int))=false:=by rw[bne_eq_false_iff_eq];omega
      clear j k i;generalize rs[a].length=K at*;go_wp2_with fail
      go_roundw
      case rel=>exact⟨a+1,by first|rfl|go_num,by omega,g,b⟩
      case measure=>simp[aI];omega
     .have g:=pq (la:=rs.map List.length) (by simpa using l) (by rw[i.out];exact k);rw[List.length_map]at g;have d:Y (Z.eY nc nc ne (rs.map List.length)=false):=G (by rw[u.out];exact decide_eq_false g);have F:((rs[a].length:Int) !=(a:Int))=true:=by rw[bne_iff_ne];omega
      clear j k i g;generalize rs[a].length=K at*;go_wp2;go_ret;exact⟨by rw[d.out];rfl,b⟩
    .obtain rfl:a=rs.length:=by omega
     have E:¬((rs.length:Int)<(rs.length:Int)):=by omega
     have d:Y (Z.eY nc nc ne (rs.map List.length)=true):=G (by
      rw[u.out];have:=j.out;rw[List.take_of_length_le (by simp)]at this;exact decide_eq_true this)
     go_wp2;go_ret;exact⟨by rw[d.out];rfl,b⟩
def Z.jE (rs:List (List Rat))(cs:List Rat):Bool:=decide (rs.map List.sum=cs)
theorem pt {k:Nat}:∀(l:List Rat),(∀q∈l,E.Lq q k)-> ∀j,E.Lq ((l.take j).sum) (l.length*(k+1)+2)
 |[],_,j=>by simpa using dR (n:=0) (by omega)
 |a::l,f,0=>by simpa using(dR (n:=0) (by omega)).mono (by omega)
 |a::l,f,j+1=>by
  have ih:=pt l (λq b=>f q (by simp[b])) j;rw[List.take_succ_cons,List.sum_cons,List.length_cons,Nat.succ_mul];exact((f a (by simp)).add ih).mono (by omega)
theorem BS (h:i<rs.length)(h2:i<cs.length)(b:(rs.take i).map List.sum=cs.take i)(a:rs[i].sum=cs[i]):(rs.take (i+1)).map List.sum=cs.take (i+1):=by
 rw[List.take_succ_eq_append_getElem h,List.take_succ_eq_append_getElem h2,List.map_append,b,List.map_cons,List.map_nil,a]
theorem BU (h:i<rs.length)(h2:i<cs.length)(b:rs[i].sum≠cs[i]):Z.jE rs cs=false:=decide_eq_false λa=>b (by
 have:=congrArg (λc=>c[i]?) a;simp only[List.getElem?_map,aT h,aT h2,Option.map_some]at this;exact Option.some.inj this)
theorem BV {nm:ByteArray}{vc va vb ve:W}{kc:Nat}(T:aU kc w vc cs)(h:cU (cX ka) w va rs)(aE:rs.length=cs.length)(bf:rs.length<=100)(aY:Y (∀l∈rs,l.length<=100))(bb:kc<=1000)(bd:ka<=1000)(hb:∃B A cb,vb=D B A cb)(t:∃ai ne v,ve=D ai ne v):
 aj ae 143 #[af #[al nm,vc,va,vb,ve]] w λe c=>e=aw (J (Z.jE rs cs))/\V w c:=by
 obtain⟨B,A,cb,rfl⟩:=hb;obtain⟨ai,ne,v,rfl⟩:=t;obtain⟨aH,aA,rfl⟩:=T.form;obtain⟨aG,az,rfl⟩:=h.form;have aJ:=G h;have aK:=G T;have ar:=G aE;clear h T aE;go_enter func143,ntmps143;go_wp2_with fail;generalize aD:ah w _=a6 at*;obtain⟨b,d⟩:=aC aD;clear aD;obtain⟨f,g,i,j,k⟩:=d.c5;have av:=G b;have aq:=G d;clear b d f g i j k
 go_loopw[3,4,8] (λ_ _ an wr=> ∃a:Nat,an=H I (a:Int)/\a<=rs.length/\Y ((rs.take a).map List.sum=cs.take a)/\Bx 47 wr w.heap.size [al nm,D aH cs.length aA,D aG rs.length az,D B A cb,D ai ne v]/\V w wr) (λ_ _ an _=>rs.length-(aI an).toNat)
 case atStart=>exact⟨0,rfl,bn _,G (by simp),aq.out,av.out⟩
 case round=>
  clear av aq;obtain⟨a,rfl,ba,K,d,b⟩:=hrel
  by_cases y:a<rs.length
  .have X:a<cs.length:=by have:=ar.out;omega
   obtain⟨ax,aF,bk,aT,aV,aB,z⟩:=aJ.out.at_ y;subst aT;have a9:_:=(b.cell (p:=⟨ax,aF+a,none⟩) aV).trans aB;obtain⟨aQ,aR,rfl⟩:=z.form;obtain⟨m,o,am,C,ag,Q,F,ak,R,aS,hb,c1,c2,c3,n⟩:=aK.out.sq.at_ (bF kc) X;subst aS;have aO:=G λt=>BS y X K.out t
   have aM:=G λt=>BU (cs:=cs) y X t
   have au:=G (pt rs[a] (ju z));have aL:=G (aY.out rs[a] (cq y));have q:aU ka wr (D aQ rs[a].length aR) rs[a]:=aU.up z b;generalize cs[a]=ay at*;generalize rs[a]=r at*;have n:Fr wr (af #[J am,D C ag Q,D F ak R]) ay kc:=Fr.up n b;have L:Y (∀c,V w c->c.cell? ⟨m,o+a*3,none⟩=U (J am)/\c.cell? ⟨m,o+a*3+1,none⟩=U (D C ag Q)/\c.cell? ⟨m,o+a*3+2,none⟩=U (D F ak R)):=G (λc ab=>⟨(ab.cell (p:=⟨m,o+a*3,none⟩) hb).trans c1,(ab.cell (p:=⟨m,o+a*3+1,none⟩) hb).trans c2,(ab.cell (p:=⟨m,o+a*3+2,none⟩) hb).trans c3⟩);have a2:(a:Int)<(rs.length:Int):=by omega
   have bi:(a:Int)<(cs.length:Int):=by omega
   have bh:(0:Int)<=(a:Int):=by omega
   have bj:((a:Int)).toNat=a:=by omega
   have a1:=aL.out;have a4:r.length*(ka+1)<=100*1001:=Nat.mul_le_mul a1 (by omega);have aP:Y (E.Lq r.sum (r.length*(ka+1)+2)):=G (by have:=au.out r.length;rwa [co]at this);obtain⟨ao,N⟩:∃ao,Y (decide (r.sum=ay)=ao):=⟨_,G rfl⟩;clear c1 c2 c3 aB z K;obtain⟨f,g,i,j,k⟩:=d.c5;go_wp2_with fail;revert b d q n f g i j k;refine bE (V.refl wr).drew ?_;intro b d q n f g i j k
   refine aZ ?_;refine a3 (S:=λc=>V w c/\c.cell? ⟨w.heap.size,0,none⟩=U (al nm)/\c.cell? ⟨w.heap.size,1,none⟩=U (D (U ⟨m,o,none⟩) cs.length aA)/\c.cell? ⟨w.heap.size,2,none⟩=U (D (U ⟨ax,aF,none⟩) rs.length az)/\c.cell? ⟨w.heap.size,3,none⟩=U (D B A cb)/\c.cell? ⟨w.heap.size,4,none⟩=U (D ai ne v)/\c.cell? ⟨m,o+a*3,none⟩=U (J am)/\c.cell? ⟨m,o+a*3+1,none⟩=U (D C ag Q)/\c.cell? ⟨m,o+a*3+2,none⟩=U (D F ak R)) (by kernel_rfl) ?_ (λx=> ?_)
   .exact⟨b,f,g,i,j,k,L.out _ b⟩
   refine aa 0 ?_;refine aa 2 ?_;refine aa 3 ?_;refine aa 4 ?_;refine aa 5 ?_;refine aa 6 ?_;refine bZ 1 (λP s=> ?_);go_simp
   (first
     |(go_at_call 144
       with_reducible refine(po q (by omega) (by omega) au (by omega)).mono ?_
       rintro e a7 ⟨a5,rfl,u,u51⟩;revert b d q n f g i j k;refine bE u51 ?_;intro b d q n f g i j k
       try(replace u:=u.up u51)
       clear u51))
   try go_wp2_with fail
   try clear x
   refine s.out _ _ ?_ (λx=> ?_)
   .exact⟨b,f,g,i,j,k,L.out _ b⟩
   clear s P
   try simp only[bc,bg]
   refine bZ 7 (λP s=> ?_);go_simp
   (first
     |(go_at_call 11
       with_reducible refine(ic (Qw.fr u aP.out) n (by omega) (by omega)).mono ?_
       rintro e a8 ⟨rfl,u52⟩;revert b d q n f g i j k;refine bE u52 ?_;intro b d q n f g i j k
       try(replace u:=u.up u52)
       clear u52;rw[N.out]))
   try go_wp2_with fail
   try clear x
   refine s.out _ _ ?_ (λx=> ?_)
   .exact⟨b,f,g,i,j,k,L.out _ b⟩
   clear s P
   try simp only[bc,bg]
   refine aa 8 ?_;refine aW (by kernel_rfl) ?_ _;refine aX ?_;cases ao;rotate_left
   .have aN:=G (aO.out (of_decide_eq_true N.out));go_wp2_with fail
    go_roundw
    case rel=>exact⟨a+1,by first|rfl|go_num,by omega,aN,d,b⟩
    case measure=>simp[aI];omega
   .have M:=G (aM.out (of_decide_eq_false N.out));go_wp2;go_ret;exact⟨by rw[M.out];rfl,b⟩
  .obtain rfl:a=rs.length:=by omega
   have a2:¬((rs.length:Int)<(rs.length:Int)):=by omega
   have M:Y (Z.jE rs cs=true):=G (by
    have:=K.out;rw[co,List.take_of_length_le (by have:=ar.out;omega)]at this;exact decide_eq_true this)
   go_wp2;go_ret;exact⟨by rw[M.out];rfl,b⟩
end Go.Proofs.YtjopfpegcckllaaGreatDoor
