/- A part of TopStops's proof: FracRight SvTape3 SvFracs SvEval2. -/
import Derived.LoopN
import Derived.Deep.DeepCutAuto
import Derived.Deep.RegionLaw
import Derived.Test.YtjopfpegcckllaaGreatDoorZqAe
set_option linter.unusedVariables false
set_option linter.unusedSimpArgs false
set_option maxRecDepth 100000
set_option maxHeartbeats 12800000
open Go.Proofs.Tryz
open Go renaming Oper→bt,Act→a6,World→O,Value→W,Calls→aj,Addr→am,maxLen→cm,TypeId→an,Ending→aO,wpList→bG,sizeOf→ci,rounds_succ→a9,isAgg→ct,bodyPost_ret→a4,wp_region_noPanic→aZ,wp_region_held_drew→a3,wpAnyH_done→aW
open Go.Act renaming put→bg
open Go.AllReadyH renaming cons→av,nil→bm
open Go.Ending renaming returned→aw
open Go.IntKind renaming i64→I
open Go.Lib renaming hid→G
open Go.NoPanic renaming normal→aX
open Go.Obj renaming cells→ao
open Go.Proofs.Tryz renaming prog→ae
open Go.RowKit renaming Hid→Y,intOf→aI
open Go.Value renaming tuple→aY,int→H,bool→J,slice→D,agg→af,pointer→az
open Go.World renaming setCell→ag,alloc→ah
open List renaming getElem_mem→cq,getD_eq_getElem?_getD→bz,getElem?_eq_getElem→aT,replicate→bA,take_length→co
open Nat renaming le_refl→a8,le_trans→aQ,zero_le→bn
open Option renaming some→U
variable {α:Type}{s:Bool}{ar b par:Int}{l:List (Int×Int)}{F P Q aM ai bi d e p ps qs:List Rat}{new old vs:List W}{base c cb g gp i j k ka kb n no:Nat}{ab w w0 w1:O}{A B:Option am}{r:Rat}{ep u v x:W}{S T:an}
namespace Go.Proofs.YtjopfpegcckllaaGreatDoor
open Go.RowKit
theorem kr (w:O):aj ae 85 #[H I 1] w λe a=>e=aw (H I 1)/\w=a:=by
 go_enter func85,ntmps85;go_wp2;go_ret;exact⟨rfl,rfl⟩
theorem mL:d8 3 (H I 0) 1 8:=by unfold d8;kernel_rfl
theorem tb:cQ 1 (H I 0).cells.toList:=⟨rfl,λb a=>by simp[Value.cells]at a;subst a;exact⟨trivial,rfl⟩⟩
def Ak (l:List Int)(w:O)(e:aO)(c:O):Prop:= ∃a b,e=aw (D a l.length b)/\aP eX 1 3 w.heap.size c (D a l.length b) l/\V w c
theorem o9 (w:O):aj ae 88 #[H I 2,H I 1] w (Ak [0,1] w):=by
 have b:=V.refl w;have a:aP eX 1 3 w.heap.size w (D none 0 0) []:=aP.nil _ _ _ _ _;go_enter func88,ntmps88;go_wp2_with fail;refine wp_loop_rounds 3 ?_;rw[a9];have c:Y (aP eX 1 3 w.heap.size (w.alloc (ao #[H I 0] 3)) (D none 0 0) []):=G (a.up (i4 _) ((V.refl w).alloc _));have d:=G (b.alloc (ao #[H I 0] 3));clear b a;go_wp2_with(first|(at_builtin;refine sl (i4 _) underlying23 mL tb (by decide) (w0:=w) rfl _ _ rfl rfl c.out d.out rfl (heap_alloc_new w _) rfl (by simp) ?_;intro n e a f b;clear f c d;obtain⟨i,c1,k⟩:=aP.form a;subst k)|(go_at_call 85;refine(kr _).mono ?_;rintro j m ⟨rfl,rfl⟩));rw[a9];have c:Y (aP eX 1 3 w.heap.size (e.alloc (ao #[H I 1] 3)) (D i 1 c1) [0]):=G (a.up (i4 _) ((V.refl e).alloc _));have d:=G (b.alloc (ao #[H I 1] 3));clear b a;go_wp2_with(first|(at_builtin;refine sl (i4 _) underlying23 mL tb (by decide) (w0:=w) rfl _ _ rfl rfl c.out d.out rfl (heap_alloc_new e _) rfl (by simp) ?_;intro o p a g b;clear g c d;obtain⟨B2,c2,l⟩:=aP.form a;subst l)|(go_at_call 85;refine(kr _).mono ?_;rintro j m ⟨rfl,rfl⟩));rw[a9];go_wp2;go_ret;exact⟨_,_,rfl,a,b⟩
def mM (_:O)(x:List W)(r:Int×Int):Prop:=x=[H I r.1,H I r.2]
theorem ku (T:an):Kn 2 T mM where
 kw:=λa _=>a
 ok:=λa=>by
  cases a;exact⟨rfl,λc b=>by simp at b;rcases b with rfl|rfl<;>exact⟨trivial,rfl⟩⟩
theorem pa:d8 130 (af #[H I 0,H I 0]) 2 16:=by unfold d8;kernel_rfl
theorem pc:cQ 2 (af #[H I 0,H I 0]).cells.toList:=⟨rfl,λb a=>by simp[Value.cells]at a;subst a;exact⟨trivial,rfl⟩⟩
theorem mN (w:O):(ct 130).run ae w= .ok true w:=by kernel_rfl
theorem mO (w:O):(ci 130).run ae w= .ok 2 w:=by kernel_rfl
def cF (w0 w:O)(v:W)(l:List (Int×Int)):Prop:=aP mM 2 130 w0.heap.size w v l
def Kq (d:Nat)(v:W)(w e:O):Prop:= ∀(b:an) (a:Nat) (c:List W),a≠d->v.ownBlock≠U a->Bx b w a c->Bx b e a c
theorem Kq.refl (a:Nat)(v:W)(w:O):Kq a v w w:=λ_ _ _ _ _ h=>h
theorem Kq.up {gp:Nat}{v:W}{w w1 ab:O}(h:Kq gp v w w1)(u:V w1 ab):Kq gp v w ab:=λS g vs h1 h2 hb=>(h S g vs h1 h2 hb).up u
instance Kq.bW {gp:Nat} {v:W} {w w1 ab:O}:Lu (V w1 ab) (Kq gp v w w1) (Kq gp v w ab):=bu λu h=>h.up u
theorem Kq.gr (h:Kq gp v w w1)(u:w1.grownBy ab v.ownBlock):Kq gp v w ab:=λS g vs h1 h2 hb=>(u.block g (h S g vs h1 h2 hb).lt (λe=>h2 e.symm)).trans (h S g vs h1 h2 hb)
theorem Kq.bs (h:Kq gp v w w1)(b:Bs T g w1 ab old new)(d:g=gp\/v.ownBlock=U g\/w.heap.size<=g):Kq gp v w ab:=λS bI us h1 h2 c=>b.ck (λe=>by
 subst e;rcases d with a|a|a
 .exact h1 a
 .exact h2 a
 .have:=c.lt;omega) (h S bI us h1 h2 c)
theorem Kq.own {P:O->List W->α->Prop}{b:Nat}{l:List α}(c:∀x q,P w x q->P ab x q)(h:Kq gp v w ab)(f:aP P n T b w u l)(h1:u.ownBlock≠U gp)(h2:∀g,u.ownBlock=U g->v.ownBlock≠U g):aP P n T b ab u l:=by
 obtain⟨j,ha,d,a⟩:=f;refine⟨j,ha.imp c,d,?_⟩;rcases a with a|⟨g,ys,e,hb,i,r⟩
 .exact .inl a
 .subst e;exact .inr ⟨g,ys,rfl,hb,h _ _ _ (λe=>h1 (by rw[e];rfl)) (h2 g rfl) i,r⟩
theorem cF.up {w0 w ab:O}{v:W}{l:List (Int×Int)}(h:cF w0 w v l)(a:V w ab):cF w0 ab v l:=aP.up (ku _) h a
instance cF.bW {w0 w ab:O} {v:W} {l:List (Int×Int)}:Lu (V w ab) (cF w0 w v l) (cF w0 ab v l):=bu λu h=>h.up u
theorem cF.put (h:cF w0 w v l)(hb:Bx T w g vs)(b:130≠T):cF w0 (w.setCell ⟨g,i,none⟩ x) v l:=by
 obtain⟨f,ha,a⟩:=h;refine⟨f,ha,a.kept (row:=U g) ⟨rfl,rfl,rfl,by simp[ag],λj k c=>Below.heap_setCell _ _ _ _ (by simp;exact λe=>c (by rw[e]))⟩ ?_⟩;rcases a.2 with⟨rfl,_⟩|⟨bI,ys,rfl,_,d,_⟩
 .exact .inl rfl
 .refine .inr λe=> ?_
  cases e;exact b (gh d hb)
def Am (d:Nat)(v:W)(l:List (Int×Int))(w0 w:O)(a:O):Prop:= ∃b c,Bx 173 a d [D b l.length c]/\cF w0 a (D b l.length c) l/\V w0 a/\Kq d v w a
theorem td {mP:Nat}{a:Int}(hb:Bx 173 w gp [D A l.length mP])(y:cF w0 w (D A l.length mP) l)(u:V w0 w)(x:w0.heap.size<=gp)(z:Bx 130 w g [H I a,H I b])(J:l.length<=1000):
 aj ae 89 #[az (U ⟨gp,0,none⟩),D (U ⟨g,0,none⟩) 1 c] w λe B=>e=aw (aY #[])/\Am gp (D A l.length mP) (l++[(a,b)]) w0 w B:=by
 have j:=hb.c1;have o:=G hb;go_enter func89,ntmps89;have f:(l++[(a,b)]).length=l.length+1:=by simp
 go_wp2_with(at_builtin;refine hB (ku _) underlying127 pa pc (by decide) (w0:=w0) rfl _ _ rfl rfl y u rfl z (q:=(a,b)) rfl (by omega) ?_;intro E v i m t n C;have hb:=m.bx (by decide) o.out;obtain⟨d,c1,k⟩:=aP.form i;rw[f]at k;subst k;clear j;have j:=hb.c1;have F:=hb.free 0)
 go_end0
 have r:=((Kq.refl gp (D A l.length mP) w).gr n).bs (dK [D d (l.length+1) c1] 0 hb rfl (Nat.le_of_ble_eq_true rfl)) (.inl rfl);have s:cF w0 v (D d (l.length+1) c1) (l++[(a,b)]):=i;refine⟨rfl,d,c1,?_,?_,t.setCell (p:=⟨gp,0,none⟩) x _,r⟩
 .rw[f];exact hb.set 0 _
 .rw[f];exact s.put hb (by decide)
theorem Ao {a:Int}(hb:Bx 173 w gp [D A n c])(t:cF w0 w (D A n c) (l++[(a,b)]))(K:l.length<=1000):
 aj ae 127 #[az (U ⟨gp,0,none⟩)] w λe C=>e=aw (aY #[af #[H I a,H I b],J true])/\V w C:=by
 have y:n=l.length+1:=by
  obtain⟨_,_,e⟩:=aP.form t;injection e with _ e
  rw[e];simp
 subst y;obtain⟨B,o,E,x,r,z,s⟩:=(aP.sn t).at_ (ku 0) (by decide) (k:=l.length) (by simp)
 subst x;obtain rfl:E=[H I a,H I b]:=by simpa[mM]using z
 have G:=hb.lt;have k1:((l.length:Int)+1==0)=false:=by rw[beq_eq_false_iff_ne];omega
 have k2:IntKind.i64.wrap ((l.length:Int)+1-1)=(l.length:Int):=by rw[Int.add_sub_cancel];exact IntWalk.i64_in _ (by omega)
 have L:(0:Int)<=(l.length:Int):=by omega
 have M:(l.length:Int)<(l.length:Int)+1:=by omega
 have N:((l.length:Int)).toNat=l.length:=by omega
 have v:=hb.c1;have m:=s 0 _ rfl;have d1:=s 1 _ rfl;rw[Nat.add_zero]at m;go_enter func127,ntmps127;go_wp2_with fail;generalize g:ah w _=u at*;obtain⟨d,f⟩:=aC g;clear g;replace hb:=hb.up d;have i:=f.c2;have P:=f.free;replace v:=hb.c1;replace m:=(d.cell (p:=⟨B,o+l.length*2,none⟩) r).trans m;replace d1:=(d.cell (p:=⟨B,o+l.length*2+1,none⟩) r).trans d1
 go_region
 clear hb;generalize g:ag (ag u _ _) _ _=q at*;have j:=dp f g;clear g;replace f:=j.new;replace d:=d.bs j;clear j;clear i;have i:=f.c2;revert f d i;refine bo (V.refl q).drew ?_;intro f d i;generalize q.drew=F at*;go_wp2;exact a4 (ia rfl rfl mN mO f rfl) rfl ⟨rfl,d⟩
theorem Aq (hb:Bx 173 w gp [D A 0 c]):aj ae 127 #[az (U ⟨gp,0,none⟩)] w λe g=>e=aw (aY #[af #[H I 0,H I 0],J false])/\V w g:=by
 have k:=hb.c1;have l:=hb.lt;go_enter func127,ntmps127;go_wp2_with fail;generalize d:ah (ah w _) _=i at*;obtain⟨b,a,f⟩:=br d;clear d;replace hb:=hb.up b;have m:=a.c2;have n:=a.free;have j:=f.c2;exact a4 (ia rfl rfl mN mO a rfl) rfl ⟨rfl,b⟩
def Ar (g:Nat)(f:Option am)(c:Nat)(l:List (Int×Int))(a b:Int)(w0 w:O)(e:aO)(d:O):Prop:=e=aw (aY #[af #[H I a,H I b],J true])/\Bx 173 d g [D f l.length c]/\cF w0 d (D f l.length c) l/\V w0 d/\Kq g (D f (l.length+1) c) w d
theorem An.GN {R:List W->α->Prop}{xs:List (List W)}{qs:List α}{q:α}(h:An R xs (qs++[q])):∃a x,xs=a++[x]/\An R a qs/\R x q:=by
 have b:xs.length=qs.length+1:=by rw[h.1];simp
 obtain⟨a,x,rfl⟩:∃a x,xs=a++[x]:=⟨xs.dropLast,xs.getLast (λe=>by rw[e]at b;exact absurd b (by simp)),(List.dropLast_concat_getLast _).symm⟩;have c:a.length=qs.length:=by simpa using b
 refine⟨a,x,rfl,⟨c,λj y r h1 h2=>h.2 j y r ?_ ?_⟩,h.2 qs.length x q (by rw[<-c];simp) (by simp)⟩
 .rw[List.getElem?_append_left (List.getElem?_eq_some_iff.1 h1).1];exact h1
 .rw[List.getElem?_append_left (List.getElem?_eq_some_iff.1 h2).1];exact h2
theorem te {a:Int}(hb:Bx 173 w gp [D A (l.length+1) c])(ak:cF w0 w (D A (l.length+1) c) (l++[(a,b)]))(T:V w0 w)(ax:w0.heap.size<=gp)(ay:l.length<=1000):
 aj ae 90 #[az (U ⟨gp,0,none⟩)] w (Ar gp A c l a b w0 w):=by
 have aq:=G ak;obtain⟨aV,ha,N,z⟩:=ak;obtain⟨m,aJ,rfl,M,aB⟩:=ha.GN;obtain rfl:aJ=[H I a,H I b]:=aB;have ag:m.length=l.length:=M.1;rcases z with⟨_,q⟩|⟨k,x,q,af,f,j,ai⟩
 .simp at q
 injection q with J K y
 subst J;have Q:=G y;have ao:=G N;have ar:=G j;have B:=G M;have an:=G ai
 have S:Y (gp≠k):=G λq=>by
  subst q;exact absurd (gh hb f) (by decide)
 have aO:=hb.lt;have aN:=f.lt;have i:Y (m.flatten.length=l.length*2):=G (by rw[eL λv j=>N v (by simp[j]),ag]);obtain⟨fs,R⟩:∃aw,Y ((m++[[H I a,H I b]]++x).flatten=aw):=⟨_,G rfl⟩;rw[R.out]at f;clear K y ha M N j ai ag;have k1:((l.length:Int)+1==0)=false:=by rw[beq_eq_false_iff_ne];omega
 have k2:IntKind.i64.wrap ((l.length:Int)+1-1)=(l.length:Int):=by rw[Int.add_sub_cancel];exact IntWalk.i64_in _ (by omega)
 have aP:(0:Int)<=(l.length:Int):=by omega
 have aQ:(l.length:Int)<(l.length:Int)+1:=by omega
 have aR:((l.length:Int)).toNat=l.length:=by omega
 go_enter func90,ntmps90;go_wp2_with fail;generalize u:ah w _=aK at*;obtain⟨g,d⟩:=aC u;clear u;replace hb:=hb.up g;replace f:=f.up g;have p:=d.c2;have P:=d.free
 with_reducible refine(Ao (l:=l) hb (aq.out.up g) ay).mono ?_
 rintro q C ⟨rfl,u1⟩;revert g d hb f p;refine b8 u1 ?_;intro g d hb f p;replace P:=d.free;clear u1;have aD:=ez p;have aF:=d.fa;have aE:=f1 p;have aG:=d.eE;go_upto_region 4 with fail
 clear aD aF aE aG;generalize u:ah (ah C _) _=W at*;obtain⟨al,o,Z⟩:=br u;clear u;have aH:=d.lt;have aI:=d.lt;revert g d hb f p;refine b8 al ?_;intro g d hb f p;replace P:=d.free;clear al;have au:=o.c2;have av:=Z.c2;have s:=hb.c1;have r:Y (fs=m.flatten++(H I a::H I b::x.flatten)):=G (by rw[<-R.out];simp);have aa:fs[l.length*2]? =U (H I a):=by rw[r.out,List.getElem?_append_right (by rw[i.out];omega),i.out,Nat.sub_self];rfl
 have ab:fs[l.length*2+1]? =U (H I b):=by rw[r.out,List.getElem?_append_right (by rw[i.out];omega),i.out,show l.length*2+1-l.length*2=1 by omega];rfl
 have F:=f.cell aa;have d1:=f.cell ab;have t:=f.free (l.length*2);have L:=f.free (l.length*2+1);clear aa ab;have k6:l.length*2+2<=fs.length:=by rw[r.out,List.length_append,i.out];simp
 have e:=dK [H I 0,H I 0] (l.length*2) f (by rw[r.out,List.drop_left' i.out];rfl) k6;have n:=(Kq.refl gp (D (U ⟨k,0,none⟩) (l.length+1) c) w).up g;replace g:=T.trans g;clear k6
 go_region
 have aL:k<C.heap.size/\gp<C.heap.size:=by omega
 clear F d1 t L s au av p P aH aI;replace hb:=(hb.bs e S.out).up (V.refl _).drew;have aT:=d.lt;have aM:=o.lt;replace d:=(d.bs e (by omega)).up (V.refl _).drew;replace o:=(o.bs e (by omega)).up (V.refl _).drew;replace n:=(n.bs e (.inr (.inl rfl))).up (V.refl _).drew;replace g:=(g.bs e af).drew;replace f:=e.new.up (V.refl _).drew;clear e Z;change Exit.then _ _ _ _ (jl W k (l.length*2) [H I 0,H I 0]).drew;generalize(jl W k (l.length*2) [H I 0,H I 0]).drew=E at*;have s:=hb.c1;have t:=hb.free 0
 have aS:(l.length:Int)<=(c:Int):=by
  have:=Q.out;simp at this;have:=B.out.1;omega
 go_wp2_with fail
 go_region
 clear s t;have e:Bs 173 gp E (E.setCell ⟨gp,0,none⟩ (D (U ⟨k,0,none⟩) l.length c)) _ _:=dK [D (U ⟨k,0,none⟩) l.length c] 0 hb rfl (Nat.le_of_ble_eq_true rfl);replace f:=(f.bs e (Ne.symm S.out)).up (V.refl _).drew;replace d:=(d.bs e (by omega)).up (V.refl _).drew;replace o:=(o.bs e (by omega)).up (V.refl _).drew;replace n:=(n.bs e (.inl rfl)).up (V.refl _).drew;replace g:=(g.bs e ax).drew;replace hb:=e.new.up (V.refl _).drew;clear e;generalize(E.setCell ⟨gp,0,none⟩ (D (U ⟨k,0,none⟩) l.length c)).drew=X at*;have e:Bs 130 w.heap.size X ((X.setCell ⟨w.heap.size,0,none⟩ (H I a)).setCell ⟨w.heap.size,1,none⟩ (H I b)) _ _:=dK [H I a,H I b] 0 d rfl (Nat.le_of_ble_eq_true rfl);have aA:=T.size;obtain⟨s,c1⟩:=o.c2;obtain⟨F,d1⟩:=d.c2;have t:=d.free 0;have L:=d.free 1;go_wp2_with fail;clear s c1 F d1 t L;replace f:=f.bs e (by omega);replace hb:=hb.bs e (by omega);replace n:=n.bs e (.inr (.inr (a8 _)));replace g:=g.bs e aA;replace d:=e.new;refine a4 (ia rfl rfl mN mO d rfl) rfl ⟨rfl,hb,?_,g,n⟩
 have J:f8 (l.length*2) [H I 0,H I 0] fs=(m++([H I 0,H I 0]::x)).flatten:=by
  rw[r.out];unfold f8 f8 f8;rw[List.set_append_right _ _ (by rw[i.out];omega),i.out,Nat.sub_self,List.set_append_right _ _ (by rw[i.out];omega),i.out,show l.length*2+1-l.length*2=1 by omega];simp
 have K:l.length=m.length:=B.out.1.symm
 have y:c=m.length+(x.length+1):=by
  have:=Q.out;simp at this;omega
 refine⟨m,B.out,λv j=>ao.out v (by simp[j]),.inr ⟨k,[H I 0,H I 0]::x,by rw[K,y];rfl,af,by rw[<-J];exact f,λv j=> ?_,by have:=an.out;simp at this;simp;omega⟩⟩;rcases List.mem_cons.1 j with rfl|j
 .exact⟨rfl,λaU z=>by simp at z;subst z;exact⟨trivial,rfl⟩⟩
 .exact ar.out v j
theorem As (hb:Bx 173 w gp [D A 0 c]):aj ae 90 #[az (U ⟨gp,0,none⟩)] w λe q=>e=aw (aY #[af #[H I 0,H I 0],J false])/\V w q:=by
 have t:=hb.lt;go_enter func90,ntmps90;go_wp2_with fail;generalize d:ah w _=r at*;obtain⟨b,a⟩:=aC d;clear d;replace hb:=hb.up b;have f:=a.c2;have l:=a.free
 with_reducible refine(Aq hb).mono ?_
 rintro e m ⟨rfl,u1⟩;revert b a hb f;refine bf u1 ?_;intro b a hb f;replace l:=a.free;clear u1;have o:=ez f;have p:=a.fa;go_wp2_with fail;clear o p;generalize d:ah m _=n at*;obtain⟨k,i⟩:=aC d;clear d;have u:=a.lt;revert b a hb f;refine bf k ?_;intro b a hb f;replace l:=a.free;clear k;have j:=i.c2;clear hb;generalize d:ag (ag n _ _) _ _=s at*;have g:=dp a d;clear d;replace i:=i.bs g;replace a:=g.new;replace b:=b.bs g;clear g;clear f j;have f:=a.c2;have j:=i.c2;exact a4 (ia rfl rfl mN mO a rfl) rfl ⟨rfl,b⟩
def Z.whole (a no:Nat)(ar par:Int):Bool:=decide (1<=ar/\ar<=6/\0<=par/\par<=6/\(no:Int)=ar/\a<=300)
theorem tf {nc cc:Nat}(k:db ar)(w:O):aj ae 137 #[af #[D A nc cc,D B no cb,H I ar,H I par]] w λe b=>e=aw (J (Z.whole nc no ar par))/\V w b:=by
 obtain⟨m,n⟩:=k
 by_cases j:ar= -9223372036854775808
 .subst j;have a:Y (Z.whole nc no (-9223372036854775808) par=false):=G (decide_eq_false (by omega))
  have hb:Z.below (wrap64 (-9223372036854775809)) 6=false:=by
   have e:wrap64 (-9223372036854775809)=9223372036854775807:=by unfold wrap64;omega
   rw[e];exact decide_eq_false (by omega)
  rw[a.out];go_enter func137,ntmps137;go_wp2_with(go_at_call 139;refine(fj _ _ _).mono ?_;rintro e b ⟨rfl,rfl⟩);go_ret;exact⟨rfl,(V.refl w).alloc _⟩
 .have o: -9223372036854775807<=ar:=by omega
  have g:Y (Z.below (ar-1) 6=decide (1<=ar/\ar<=6)):=G (decide_eq_decide.2 (by omega));have i:Y (Z.below par 7=decide (0<=par/\par<=6)):=G (decide_eq_decide.2 (by omega));clear j;cases c:Z.below (ar-1) 6
  .have a:Y (Z.whole nc no ar par=false):=G (by rw[g.out]at c;have:=of_decide_eq_false c;exact decide_eq_false (by omega));rw[a.out];go_enter func137,ntmps137;go_wp2_with(go_at_call 139;refine(fj _ _ _).mono ?_;rintro e b ⟨rfl,rfl⟩);go_ret;exact⟨rfl,(V.refl w).alloc _⟩
  cases d:Z.below par 7
  .have a:Y (Z.whole nc no ar par=false):=G (by rw[i.out]at d;have:=of_decide_eq_false d;exact decide_eq_false (by omega));rw[a.out];go_enter func137,ntmps137;go_wp2_with(go_at_call 139;refine(fj _ _ _).mono ?_;rintro e b ⟨rfl,rfl⟩);go_ret;exact⟨rfl,(V.refl w).alloc _⟩
  by_cases f:(no:Int)=ar
  .have l:((no:Int)==ar)=true:=by simpa using f
   have a:Y (Z.whole nc no ar par=decide ((nc:Int)<=300)):=G (by
    rw[g.out]at c;rw[i.out]at d;have:=of_decide_eq_true c;have:=of_decide_eq_true d;exact decide_eq_decide.2 (by omega))
   rw[a.out];clear f;go_enter func137,ntmps137;go_wp2_with(go_at_call 139;refine(fj _ _ _).mono ?_;rintro e b ⟨rfl,rfl⟩);go_ret;exact⟨rfl,(V.refl w).alloc _⟩
  .have l:((no:Int)==ar)=false:=by simpa using f
   have a:Y (Z.whole nc no ar par=false):=G (decide_eq_false (by omega));rw[a.out];clear f;go_enter func137,ntmps137;go_wp2_with(go_at_call 139;refine(fj _ _ _).mono ?_;rintro e b ⟨rfl,rfl⟩);go_ret;exact⟨rfl,(V.refl w).alloc _⟩
theorem kv {a b:List Nat}(ha:Ws w v a)(hb:Ws w u b)(f:a.length<=100000000000)(g:b.length<=100000000000):
 aj ae 163 #[v,u] w λe c=>e=aw (H I (E.dk (E.val a) (E.val b)))/\V w c:=
 (lT ha hb f g).mono λe c ⟨i,d,hw⟩=>⟨d,by rw[hw];exact(V.refl w).drewN i⟩
theorem tg {a b:Nat}(h:a≠b):((E.dk a b:Int)==0)=false:=by
 rcases E.lI a b with⟨_,c⟩|⟨d,_⟩|⟨_,c⟩
 .rw[c];rfl
 .exact absurd d h
 .rw[c];rfl
theorem mQ {l m:List Nat}{q:Rat}(c:Ws w u l)(f:Ws w v m)(aq:mkRat (E.iv s (E.val l)) (E.val m)=q)(az:l.length<=100000000)(aA:m.length<=100000000):
 aj ae 145 #[af #[J s,u,v]] w λe aH=>e=aw (J (d0 s (E.aB q.num) l (E.words q.num.natAbs) m (E.words q.den)))/\V w aH:=by
 have b:Fr w (af #[J s,u,v]) q 100000000:=⟨s,_,_,l,m,rfl,c,f,aq,az,aA,by omega⟩;have aD:=c.ok;have aE:=f.ok;have c1:(E.words q.num.natAbs).length<=100000000:=b.lq.1;have c2:(E.words q.den).length<=100000000:=b.lq.2;obtain⟨aI,aJ,rfl⟩:=c.form;obtain⟨ai,aK,rfl⟩:=f.form;obtain⟨A,ag⟩:∃A,E.aB q.num=A:=⟨_,rfl⟩;obtain⟨r,X⟩:∃ak,E.words q.num.natAbs=ak:=⟨_,rfl⟩;obtain⟨o,Z⟩:∃ak,E.words q.den=ak:=⟨_,rfl⟩;have aF:E.Ok r:=by rw[<-X];exact E.gB _
 have aG:E.Ok o:=by rw[<-Z];exact E.gB _
 rw[ag,X,Z];rw[X]at c1;rw[Z]at c2;have F:=G ag;have B:=G X;have C:=G Z;clear ag X Z aq
 by_cases k1:(s==A)=true
 rotate_left
 .have k1:(s==A)=false:=by simpa using k1
  have t:Y (d0 s A l r m o=false):=G (by unfold d0;rw[k1];rfl);go_enter func145,ntmps145;go_wp2_with fail;generalize j:ah w _=N at*;obtain⟨d,a⟩:=aC j;clear j;revert c f b;refine bo d ?_;intro c f b
  have i:=a.c3;go_wp2_with fail
  with_reducible refine(dx b (by omega)).mono ?_
  rintro e x ⟨M,rfl,q1,u1⟩;revert d a c f b i;revert u1;refine dX ?_;intro d a c f b i
  obtain⟨Q,R,rfl,q1,g⟩:=q1;rw[F.out];rw[B.out]at q1;rw[C.out]at g;obtain⟨K,T,rfl⟩:=q1.form;obtain⟨L,U,rfl⟩:=g.form;have y:=a.d3;go_wp2_with fail;clear y;generalize j:ah x _=P at*;obtain⟨z,k⟩:=aC j;clear j;have S:=a.lt;revert d a c f b i q1 g;revert z;refine el ?_;intro d a c f b i q1 g
  have n:=k.c3;go_wp2;go_ret;exact⟨by rw[t.out];rfl,d⟩
 by_cases aa:l.length=r.length
 rotate_left
 .have t:Y (d0 s A l r m o=false):=G (by unfold d0;rw[k1,decide_eq_false (λe=>aa (by rw[e]))];rfl);have k2:((l.length:Int)==(r.length:Int))=false:=by rw[beq_eq_false_iff_ne];omega
  clear aa;go_enter func145,ntmps145;go_wp2_with fail;generalize j:ah w _=N at*;obtain⟨d,a⟩:=aC j;clear j;revert c f b;refine bo d ?_;intro c f b
  have i:=a.c3;go_wp2_with fail
  with_reducible refine(dx b (by omega)).mono ?_
  rintro e x ⟨M,rfl,q1,u1⟩;revert d a c f b i;revert u1;refine dX ?_;intro d a c f b i
  obtain⟨Q,R,rfl,q1,g⟩:=q1;rw[F.out];rw[B.out]at q1;rw[C.out]at g;obtain⟨K,T,rfl⟩:=q1.form;obtain⟨L,U,rfl⟩:=g.form;have y:=a.d3;go_wp2_with fail;clear y;generalize j:ah x _=P at*;obtain⟨z,k⟩:=aC j;clear j;have S:=a.lt;revert d a c f b i q1 g;revert z;refine el ?_;intro d a c f b i q1 g
  have n:=k.c3;go_wp2;go_ret;exact⟨by rw[t.out];rfl,d⟩
 have k2:((l.length:Int)==(r.length:Int))=true:=by rw[beq_iff_eq];omega
 have ar:=G aa;clear aa
 by_cases ab:m.length=o.length
 rotate_left
 .have t:Y (d0 s A l r m o=false):=G (by unfold d0;rw[k1,decide_eq_false (p:=m=o) (λe=>ab (by rw[e]))];simp);have aB:((m.length:Int)==(o.length:Int))=false:=by rw[beq_eq_false_iff_ne];omega
  clear ab;go_enter func145,ntmps145;go_wp2_with fail;generalize j:ah w _=N at*;obtain⟨d,a⟩:=aC j;clear j;revert c f b;refine bo d ?_;intro c f b
  have i:=a.c3;go_wp2_with fail
  with_reducible refine(dx b (by omega)).mono ?_
  rintro e x ⟨M,rfl,q1,u1⟩;revert d a c f b i;revert u1;refine dX ?_;intro d a c f b i
  obtain⟨Q,R,rfl,q1,g⟩:=q1;rw[F.out];rw[B.out]at q1;rw[C.out]at g;obtain⟨K,T,rfl⟩:=q1.form;obtain⟨L,U,rfl⟩:=g.form;have y:=a.d3;go_wp2_with fail;clear y;generalize j:ah x _=P at*;obtain⟨z,k⟩:=aC j;clear j;have S:=a.lt;revert d a c f b i q1 g;revert z;refine el ?_;intro d a c f b i q1 g
  have n:=k.c3;go_wp2;go_ret;exact⟨by rw[t.out];rfl,d⟩
 have aB:((m.length:Int)==(o.length:Int))=true:=by rw[beq_iff_eq];omega
 have au:=G ab;clear ab
 by_cases H:E.val l=E.val r
 rotate_left
 .have t:Y (d0 s A l r m o=false):=G (by unfold d0;rw[k1,decide_eq_false (λe=>H (by rw[e]))];rfl);have aL:=tg H;clear H;go_enter func145,ntmps145;go_wp2_with fail;generalize j:ah w _=N at*;obtain⟨d,a⟩:=aC j;clear j;revert c f b;refine bo d ?_;intro c f b
  have i:=a.c3;go_wp2_with fail
  with_reducible refine(dx b (by omega)).mono ?_
  rintro e x ⟨M,rfl,q1,u1⟩;revert d a c f b i;revert u1;refine dX ?_;intro d a c f b i
  obtain⟨Q,R,rfl,q1,g⟩:=q1;rw[F.out];rw[B.out]at q1;rw[C.out]at g;obtain⟨K,T,rfl⟩:=q1.form;obtain⟨L,U,rfl⟩:=g.form;have y:=a.d3;go_wp2_with fail;clear y;generalize j:ah x _=P at*;obtain⟨z,k⟩:=aC j;clear j;have S:=a.lt;revert d a c f b i q1 g;revert z;refine el ?_;intro d a c f b i q1 g
  have n:=k.c3
  with_reducible refine(kv c q1 (by omega) (by omega)).mono ?_
  rintro e ao ⟨rfl,u3⟩;revert k d a c f b i q1 g n;revert u3;refine eG ?_;intro k d a c f b i q1 g n
  go_wp2;go_ret;exact⟨by rw[t.out];rfl,d⟩
 have an:=G (E.lH H);have al:l=r:=E.val_inj aD aF ar.out H;have av:=G al;clear H al
 by_cases I:E.val m=E.val o
 rotate_left
 .have t:Y (d0 s A l r m o=false):=G (by unfold d0;rw[k1,decide_eq_false (p:=m=o) (λe=>I (by rw[e]))];simp);have aM:=tg I;clear I;go_enter func145,ntmps145;go_wp2_with fail;generalize j:ah w _=N at*;obtain⟨d,a⟩:=aC j;clear j;revert c f b;refine bo d ?_;intro c f b
  have i:=a.c3;go_wp2_with fail
  with_reducible refine(dx b (by omega)).mono ?_
  rintro e x ⟨M,rfl,q1,u1⟩;revert d a c f b i;revert u1;refine dX ?_;intro d a c f b i
  obtain⟨Q,R,rfl,q1,g⟩:=q1;rw[F.out];rw[B.out]at q1;rw[C.out]at g;obtain⟨K,T,rfl⟩:=q1.form;obtain⟨L,U,rfl⟩:=g.form;have y:=a.d3;go_wp2_with fail;clear y;generalize j:ah x _=P at*;obtain⟨z,k⟩:=aC j;clear j;have S:=a.lt;revert d a c f b i q1 g;revert z;refine el ?_;intro d a c f b i q1 g
  have n:=k.c3
  with_reducible refine(kv c q1 (by omega) (by omega)).mono ?_
  rintro e ao ⟨rfl,u3⟩;revert k d a c f b i q1 g n;revert u3;refine eG ?_;intro k d a c f b i q1 g n
  rw[an.out];go_wp2_with fail
  with_reducible refine(kv f g (by omega) (by omega)).mono ?_
  rintro e ay ⟨rfl,u4⟩;revert k d a c f b i q1 g n;revert u4;refine eG ?_;intro k d a c f b i q1 g n
  go_wp2;go_ret;exact⟨by rw[t.out];rfl,d⟩
 have ax:=G (E.lH I);have am:m=o:=E.val_inj aE aG au.out I;have t:Y (d0 s A l r m o=true):=G (by unfold d0;rw[k1,decide_eq_true av.out,decide_eq_true am];rfl);clear I am;go_enter func145,ntmps145;go_wp2_with fail;generalize j:ah w _=N at*;obtain⟨d,a⟩:=aC j;clear j;revert c f b;refine bo d ?_;intro c f b;have i:=a.c3;go_wp2_with fail
 with_reducible refine(dx b (by omega)).mono ?_
 rintro e x ⟨M,rfl,q1,u1⟩;revert d a c f b i;revert u1;refine dX ?_;intro d a c f b i;obtain⟨Q,R,rfl,q1,g⟩:=q1;rw[F.out];rw[B.out]at q1;rw[C.out]at g;obtain⟨K,T,rfl⟩:=q1.form;obtain⟨L,U,rfl⟩:=g.form;have y:=a.d3;go_wp2_with fail;clear y;generalize j:ah x _=P at*;obtain⟨z,k⟩:=aC j;clear j;have S:=a.lt;revert d a c f b i q1 g;revert z;refine el ?_;intro d a c f b i q1 g;have n:=k.c3
 with_reducible refine(kv c q1 (by omega) (by omega)).mono ?_
 rintro e ao ⟨rfl,u3⟩;revert k d a c f b i q1 g n;revert u3;refine eG ?_;intro k d a c f b i q1 g n;rw[an.out];go_wp2_with fail
 with_reducible refine(kv f g (by omega) (by omega)).mono ?_
 rintro e ay ⟨rfl,u4⟩;revert k d a c f b i q1 g n;revert u4;refine eG ?_;intro k d a c f b i q1 g n;rw[ax.out];go_wp2;go_ret;exact⟨by rw[t.out];rfl,d⟩
theorem At {q:Rat}(h:Qw w v q)(a:E.Lq q k)(b:k<=100000000):aj ae 145 #[v] w λe c=>e=aw (J true)/\V w c:=by
 obtain⟨l,j,rfl,d,f⟩:=h;exact(mQ (q:=q) d f (by rw[E.bl,E.bl,E.hZ,Rat.mkRat_self]) (aQ a.1 b) (aQ a.2 b)).mono λe c ⟨g,i⟩=>⟨by rw[g,si],i⟩
def aL (k:Nat)(w0 w:O)(v:W)(qs:List Rat):Prop:=aA (Qk k) 53 w0.heap.size w v qs
theorem aL.up {k:Nat}{w0 w ab:O}{v:W}{qs:List Rat}(h:aL k w0 w v qs)(a:V w ab):aL k w0 ab v qs:=aA.up (aR k) h a
instance aL.bW {k:Nat} {w0 w ab:O} {v:W} {qs:List Rat}:Lu (V w ab) (aL k w0 w v qs) (aL k w0 ab v qs):=bu λu h=>h.up u
theorem aL.q (h:aL k w0 w v qs):Sq (Qk k) w v qs:=aA.sq h
theorem aL.fr {k:Nat}{w0 w:O}{v:W}{qs:List Rat}(h:aL k w0 w v qs):Sq (cX k) w v qs:=h.q.imp λa=>a.1.fr a.2
theorem aL.form {k:Nat}{w0 w:O}{v:W}{qs:List Rat}(h:aL k w0 w v qs):∃a c,v=D a qs.length c:=aA.form h
theorem aL.weaken {k:Nat}{w0 w1 w:O}{v:W}{qs:List Rat}(h:aL k w1 w v qs)(a:V w0 w1):aL k w0 w v qs:=aA.weaken h a.size
theorem Qk.mono {j k:Nat}{w:O}{v:W}{q:Rat}(h:Qk j w v q)(a:j<=k):Qk k w v q:=⟨h.1,h.2.mono a⟩
theorem aL.mono {j k:Nat}{w0 w:O}{v:W}{qs:List Rat}(h:aL j w0 w v qs)(a:j<=k):aL k w0 w v qs:=aA.imp h λb=>b.mono a
def dT (k:Nat)(qs:List Rat)(w:O)(e:aO)(b:O):Prop:= ∃a,e=aw a/\aL k w b a qs/\V w b
theorem aA.cut {P:O->W->α->Prop}{m:Nat}{qs:List α}(h:aA P T base w (D A m c) qs)(i:n<=qs.length):aA P T base w (D A n c) (qs.take n):=by
 obtain⟨f,ha,b⟩:=h;have a:n<=f.length:=by rw[ha.1];exact i
 refine⟨f.take n,ha.take n,λx d=>b.1 x (List.mem_of_mem_take d),?_⟩;rcases b.2 with⟨e,rfl⟩|⟨g,ys,e,hb,d,j,l⟩
 .cases e;obtain rfl:n=0:=by simpa using a
  exact .inl ⟨rfl,rfl⟩
 .cases e;refine .inr ⟨g,f.drop n++ys,?_,hb,?_,λy k=> ?_,?_⟩
  .simp[List.length_take,Nat.min_eq_left a];omega
  .rw[<-List.append_assoc,List.take_append_drop];exact d
  .rcases List.mem_append.1 k with h|h
   .exact b.1 y (List.mem_of_mem_drop h)
   .exact j y h
  .simp[List.length_take,Nat.min_eq_left a];omega
theorem he {vc:W}{c:Rat}{kc:Nat}(x:Fr w vc c kc)(h:Sq (cX ka) w v qs)(a6:qs.length<=100000000)(a5:kc<=20000000)(a4:ka<=20000000):aj ae 29 #[vc,v] w (dT (kc+ka) (Pq.sc c qs) w):=by
 have au:=x.lq;obtain⟨aO,rfl,⟨C,T,c1,P⟩,⟨F,U,c2,Q⟩⟩:=(bF kc).form x;obtain⟨X,u0,a1⟩:=aO;simp only at P Q;subst P Q;have b:Fr w (af #[J X,D C T c1,D F U c2]) c kc:=x;clear x;obtain⟨aa,aB,rfl⟩:=h.form;show aj ae 29 #[af #[J X,D C T c1,D F U c2],D aa qs.length aB] w _;go_enter func29,ntmps29;go_wp2_with fail;generalize n:ah w _=l at*;obtain⟨d,e⟩:=aC n;clear n;replace b:=b.up d;have i:=e.c3;have ag:=G (h.up (bF ka) d);have am:=G b;have al:=G e;clear h b e i
 go_loopw[5,10] (λaN A wr=> ∃a:Nat,A=H I a/\a<=qs.length/\aL (kc+ka) l wr aN (Pq.sc c (qs.take a))/\V l wr) (λ_ A _=>qs.length-(aI A).toNat)
 case atStart=>exact⟨0,rfl,bn _,aA.nil _ _ _ _,V.refl l⟩
 case round=>
  obtain⟨a,rfl,a3,f,k⟩:=hrel
  by_cases R:a<qs.length
  .obtain⟨aY,o,aM,B,aH,aD,ai,aJ,aE,rfl,hb,aF,aG,g3,S⟩:=(ag.out.up (bF ka) k).at_ (bF ka) R
   have K:Y (Pq.sc c (qs.take (a+1))=Pq.sc c (qs.take a)++[c*qs[a]]):=G (by unfold Pq.sc;rw[List.take_succ_eq_append_getElem R,List.map_append];rfl);have L:Y ((Pq.sc c (qs.take a)).length=a):=G (by simp[Pq.sc];omega);generalize qs[a]=q at*;have j:Fr wr (af #[J aM,D B aH aD,D ai aJ aE]) q ka:=S;have av:=j.lq;have b:=am.out.up k;have e:=al.out.up k;have d:=V.refl wr;clear S;obtain⟨ab,az,rfl⟩:=f.form;rw[L.out]at f|-;have k1:(a:Int)<(qs.length:Int):=by omega
   have a7:(0:Int)<=(a:Int):=by omega
   have a8:((a:Int)).toNat=a:=by omega
   have i:=e.c3;have ay:=ez i;go_wp2_with fail;clear ay;generalize n:ah wr _=aU at*;obtain⟨aK,t⟩:=aC n;clear n;have aZ:=e.lt;revert j b e d f i;revert aK;refine dX ?_;intro j b e d f i
   have ax:=t.c3;clear aF aG g3
   with_reducible refine(ib b j (by omega) (by omega)).mono ?_
   rintro a2 m ⟨aS,rfl,p,u52⟩;revert t j b e d f i;refine bS u52 ?_;intro t j b e d f i
   replace ax:=t.c3;clear u52;have M:=au.mul av;obtain⟨g,an⟩:∃g,Y (c*q=g):=⟨_,G rfl⟩;rw[an.out]at p K M;obtain⟨aW,aX,rfl,p,Z⟩:=p;obtain⟨r,y,cy,rfl⟩:=p.shape;obtain⟨s,z,u,rfl⟩:=Z.shape;have ak:Y (aL (kc+ka) l (m.alloc (ao #[J (E.aB g.num),D r y cy,D s z u] 53)) (D ab a az) (Pq.sc c (qs.take a))):=G (f.up ((V.refl m).alloc _));have aq:Y (Qk ((kc+ka)) (m.alloc (ao #[J (E.aB g.num),D r y cy,D s z u] 53)) (af #[J (E.aB g.num),D r y cy,D s z u]) g):=G ⟨Qw.up ⟨_,_,rfl,p,Z⟩ ((V.refl m).alloc _),M⟩;have ar:=G ((k.trans d).alloc (ao #[J (E.aB g.num),D r y cy,D s z u] 53));go_wp2_with(at_builtin;refine fR (aR _) underlying44 d7 (w0:=l) rfl _ _ rfl rfl ak.out ar.out rfl (heap_alloc_new m _) aq.out (by rw[L.out];omega) ?_;intro aT aV N aQ aP aw);rw[<-K.out]at N
   go_roundw
   case rel=>exact⟨a+1,by go_num,by omega,N,aw⟩
   case measure=>simp[aI];omega
  .obtain rfl:a=qs.length:=by omega
   rw[co]at f;go_wp2;go_ret;exact⟨_,rfl,f.weaken d,d.trans k⟩
theorem Au (h:Sq (cX ka) w v qs)(aF:qs.length<=100000000)(aE:ka<=20000000):aj ae 153 #[v] w (dT ka qs w):=by
 obtain⟨al,az,rfl⟩:=h.form;have c:=V.refl w;obtain⟨d,l⟩:∃d,d=w:=⟨_,rfl⟩;subst l;have F:=G h;clear h;go_enter func153,ntmps153;go_wp2
 go_loopw[3,8] (λak s wr=> ∃a:Nat,s=H I a/\a<=qs.length/\aL ka d wr ak (qs.take a)/\V d wr) (λ_ s _=>qs.length-(aI s).toNat)
 case atStart=>exact⟨0,rfl,bn _,aA.nil _ _ _ _,V.refl d⟩
 case round=>
  obtain⟨a,rfl,aD,b,q⟩:=hrel
  by_cases y:a<qs.length
  .obtain⟨ay,o,ag,B,Z,S,ai,aa,T,rfl,hb,U,X,g3,z⟩:=(F.out.up (bF ka) q).at_ (bF ka) y
   have M:Y (qs.take (a+1)=qs.take a++[qs[a]]):=G (List.take_succ_eq_append_getElem y);have t:Y ((qs.take a).length=a):=G (by rw[List.length_take];omega);generalize qs[a]=f at*;have e:Fr wr (af #[J ag,D B Z S,D ai aa T]) f ka:=z;have P:=e.lq;have c:=V.refl wr;clear z;obtain⟨C,R,rfl⟩:=b.form;rw[t.out]at b|-;have k1:(a:Int)<(qs.length:Int):=by omega
   have aG:(0:Int)<=(a:Int):=by omega
   have aH:((a:Int)).toNat=a:=by omega
   have c:V wr wr:=V.refl wr;go_wp2_with fail;generalize l:ah wr _=au at*;obtain⟨ab,r⟩:=aC l;clear l;revert e b c;revert ab;refine bX ?_;intro e b c
   have x:=r.c3;clear U X g3
   with_reducible refine(dx e (by omega)).mono ?_
   rintro aB g ⟨aq,rfl,p,u2⟩;revert r e b c x;revert u2;refine dH ?_;intro r e b c x
   obtain⟨aw,ax,rfl,p,A⟩:=p;obtain⟨i,m,cy,rfl⟩:=p.shape;obtain⟨j,n,k,rfl⟩:=A.shape;have K:Y (aL ka d (g.alloc (ao #[J (E.aB f.num),D i m cy,D j n k] 53)) (D C a R) (qs.take a)):=G (b.up ((V.refl g).alloc _));have L:Y (Qk (ka) (g.alloc (ao #[J (E.aB f.num),D i m cy,D j n k] 53)) (af #[J (E.aB f.num),D i m cy,D j n k]) f):=G ⟨Qw.up ⟨_,_,rfl,p,A⟩ ((V.refl g).alloc _),P⟩;have N:=G ((q.trans c).alloc (ao #[J (E.aB f.num),D i m cy,D j n k] 53));go_wp2_with(at_builtin;refine fR (aR _) underlying44 d7 (w0:=d) rfl _ _ rfl rfl K.out N.out rfl (heap_alloc_new g _) L.out (by rw[t.out];omega) ?_;intro ar av u an am Q);rw[<-M.out]at u
   go_roundw
   case rel=>exact⟨a+1,by go_num,by omega,u,Q⟩
   case measure=>simp[aI];omega
  .obtain rfl:a=qs.length:=by omega
   rw[co]at b;go_wp2;go_ret;exact⟨_,rfl,b,q⟩
theorem aL.at_ {k:Nat}{w0 w:O}{A:Option am}{n c:Nat}{qs:List Rat}(h:aL k w0 w (D A n c) qs){j:Nat}(e:j<qs.length):
 ∃b o s B m f ai d a,A=U ⟨b,o,none⟩/\b<w.heap.size/\w.cell? ⟨b,o+j*3,none⟩=U (J s)/\w.cell? ⟨b,o+j*3+1,none⟩=U (D B m f)/\w.cell? ⟨b,o+j*3+2,none⟩=U (D ai d a)/\Fr w (af #[J s,D B m f,D ai d a]) qs[j] k:=h.fr.at_ (bF k) e
theorem pe (q:Rat):((E.bU q.num:Int)==0)=decide (q=0):=by
 rcases E.h3 q.num with⟨a,b⟩|⟨a,b⟩|⟨a,b⟩
 .rw[b,decide_eq_false (λc=>by rw[c]at a;simp at a)];rfl
 .rw[b,decide_eq_true (Rat.num_eq_zero.1 a)];rfl
 .rw[b,decide_eq_false (λc=>by rw[c]at a;simp at a)];rfl
theorem Av (h:Sq (cX k) w v ps)(C:Sq (cX k) w u qs)(aF:ps.length<=100000000)(aG:qs.length<=100000000)(aE:k<=20000000):aj ae 147 #[v,u] w λe b=>e=aw (J (decide (ps=qs)))/\V w b:=by
 obtain⟨az,aB,rfl⟩:=h.form;obtain⟨B,aC,rfl⟩:=C.form;have an:=G h;have ao:=G C;clear h C
 by_cases r:ps.length=qs.length
 rotate_left
 .have ay:((ps.length:Int) !=(qs.length:Int))=true:=by simp;omega
  have n:Y (decide (ps=qs)=false):=G (decide_eq_false (λe=>r (by rw[e])));clear r;go_enter func147,ntmps147;go_wp2;go_ret;exact⟨by rw[n.out];rfl,V.refl w⟩
 have ay:((ps.length:Int) !=(qs.length:Int))=false:=by simp;omega
 have aa:=G r;clear r;go_enter func147,ntmps147;go_wp2
 go_loopw[13] (λN wr=> ∃a:Nat,N=H I a/\a<=ps.length/\Y (ps.take a=qs.take a)/\V w wr) (λN _=>ps.length-(aI N).toNat)
 case atStart=>exact⟨0,rfl,bn _,G rfl,V.refl w⟩
 case round=>
  obtain⟨a,rfl,aD,ab,o⟩:=hrel
  by_cases L:a<ps.length
  .have am:a<qs.length:=by rw[<-aa.out];exact L
   obtain⟨d,g,M,s,Q,z,t,S,X,av,E,ag,ah,g3,j⟩:=(an.out.up (bF k) o).at_ (bF k) L
   obtain⟨f,i,P,B2,R,A,x,T,Z,ax,F,ai,ak,al,l⟩:=(ao.out.up (bF k) o).at_ (bF k) am
   subst av ax;have ar:=G λ(K:ps[a]=qs[a])=>show ps.take (a+1)=qs.take (a+1)by rw[List.take_succ_eq_append_getElem L,List.take_succ_eq_append_getElem am,ab.out,K]
   have aq:=G λ(K:ps[a]≠qs[a])=>show ps≠qs by
    intro e;subst e;exact K rfl
   generalize ps[a]=p at*;generalize qs[a]=q at*;have j:Fr wr (af #[J M,D s Q z,D t S X]) p k:=j;have l:Fr wr (af #[J P,D B2 R A,D x T Z]) q k:=l;have k1:(a:Int)<(ps.length:Int):=by omega
   have k2:(a:Int)<(qs.length:Int):=by omega
   have aH:(0:Int)<=(a:Int):=by omega
   have aJ:((a:Int)).toNat=a:=by omega
   have c:=V.refl wr;have y:Y (∀b,V wr b->b.cell? ⟨d,g+a*3,none⟩=U (J M)/\b.cell? ⟨d,g+a*3+1,none⟩=U (D s Q z)/\b.cell? ⟨d,g+a*3+2,none⟩=U (D t S X)/\b.cell? ⟨f,i+a*3,none⟩=U (J P)/\b.cell? ⟨f,i+a*3+1,none⟩=U (D B2 R A)/\b.cell? ⟨f,i+a*3+2,none⟩=U (D x T Z)):=G (λb up=>⟨(up.cell (p:=⟨d,g+a*3,none⟩) E).trans ag,(up.cell (p:=⟨d,g+a*3+1,none⟩) E).trans ah,(up.cell (p:=⟨d,g+a*3+2,none⟩) E).trans g3,(up.cell (p:=⟨f,i+a*3,none⟩) F).trans ai,(up.cell (p:=⟨f,i+a*3+1,none⟩) F).trans ak,(up.cell (p:=⟨f,i+a*3+2,none⟩) F).trans al⟩);clear ag ah g3 ai ak al;have c:V wr wr:=V.refl wr;go_wp2_with fail;revert j l c;refine bo (V.refl wr).drew ?_;intro j l c
   go_region_held3(λb=>V wr b/\b.cell? ⟨d,g+a*3,none⟩=U (J M)/\b.cell? ⟨d,g+a*3+1,none⟩=U (D s Q z)/\b.cell? ⟨d,g+a*3+2,none⟩=U (D t S X)/\b.cell? ⟨f,i+a*3,none⟩=U (J P)/\b.cell? ⟨f,i+a*3+1,none⟩=U (D B2 R A)/\b.cell? ⟨f,i+a*3+2,none⟩=U (D x T Z))
    (first|exact⟨c,y.out _ c⟩|exact⟨(c.alloc_drew _),y.out _ (c.alloc_drew _)⟩|exact⟨(c.dt _ _),y.out _ (c.dt _ _)⟩|go_keep)
    ((first
      |(go_at_call 11
        with_reducible refine(ic j l (by omega) (by omega)).mono ?_
        rintro e aA ⟨rfl,u1⟩;revert j l c;revert u1;refine bX ?_;intro j l c)))
   all_goals
    by_cases m:p=q
    .have au:=G (ar.out m);rw[show decide (p=q)=true from decide_eq_true m];clear m;go_wp2
     go_roundw
     case rel=>exact⟨a+1,by go_num,by omega,au,o.trans c⟩
     case measure=>simp[aI];omega
    .have n:Y (decide (ps=qs)=false):=G (decide_eq_false (aq.out m));rw[show decide (p=q)=false from decide_eq_false m];clear m;go_wp2;go_ret;exact⟨by rw[n.out];rfl,o.trans c⟩
  .obtain rfl:a=ps.length:=by omega
   have n:Y (decide (ps=qs)=true):=G (decide_eq_true (by
    have:=ab.out;rw[co,aa.out,co]at this;exact this))
   go_wp2;go_ret;exact⟨by rw[n.out];rfl,o⟩
theorem il {d:W}{q:Rat}(h:Ws w u (E.words q.num.natAbs))(k:Ws w d (E.words q.den)):Qw w (af #[J (E.aB q.num),u,d]) q:=⟨_,_,rfl,h,k⟩
theorem ju (h:Sq (cX k) w v qs):∀q∈qs,E.Lq q k:=by
 intro q c;obtain⟨f,b,rfl⟩:=List.getElem_of_mem c;obtain⟨d,e,rfl⟩:=h.form;obtain⟨_,_,_,_,_,_,_,_,_,_,_,_,_,_,a⟩:=h.at_ (bF k) b;exact Fr.lq a
theorem Aw {aV:Array bt}{rest:List bt}{o:bt}{a:a6}{Q:Exit->a6->O->Prop}{P:O->W->Rat->Prop}
 (t:∀w,P w F3.zero.agg 0)(v:o.guard=none)(e c:Operand)(B:o.op=Op.makeSlice 44 e c)(n:Nat){L:Int}(A:a.eval e=H I L)(u:a.eval c=H I L)(g:L=(n:Int))(T:n<=400000000)(F:V w0 w)
 (s:∀b,aA P 53 w0.heap.size b (D (U ⟨w.heap.size,0,none⟩) n n) (bA n 0)->V w b->bG ae aV Q rest (a.put o.dst (D (U ⟨w.heap.size,0,none⟩) n n)) b):
 bG ae aV Q (o::rest) a w:=by
 obtain⟨N,z,G,K,M⟩:=info_parts (show(Tryz.prog.info? 53).map (λd=>(d.zero,d.size,d.bytes))=U (U (af #[J false,D none 0 0,D none 0 0]),3,56)from d7);refine wpList_make_full w v e c 44 B w.heap.size 53 N (af #[J false,D none 0 0,D none 0 0]) 3 underlying44 z G K I I L L n A u g g (by rw[M];omega) (by unfold maxLen;omega) (a8 _) ?_;intro b C x;refine s b ?_ ((V.refl w).grown x (λk q=>by cases q));rcases C.2 with⟨r,_⟩|⟨S,R,f,j,_,y,_,_,E,i⟩
 .cases r
 .simp at j;obtain⟨rfl,rfl⟩:=j;refine aA.made t ?_ F (by omega);unfold Bx;rw[y]
  have l:f.toList=(madeCells #[J false,D none 0 0,D none 0 0] (n*3)).toList:=by
   have p:(af #[J false,D none 0 0,D none 0 0]).cells=#[J false,D none 0 0,D none 0 0]:=by first|rfl|simp[Value.cells]
   rw[p,List.take_of_length_le (by simp[E])]at i;exact i
  have m:f=(aS (bA n F3.zero)).toArray:=by
   apply Array.toList_inj.1;rw[l,zF]
  rw[m]
theorem Ax (a:1<=k)(w:O):cX k w F3.zero.agg 0:=⟨false,D none 0 0,D none 0 0,[],[],rfl,Ws.nil w,Ws.nil w,by simp[E.val,E.iv],by simp,by simp,a⟩
end Go.Proofs.YtjopfpegcckllaaGreatDoor
namespace Pq
theorem Ay (p q:List Rat):zt p q 0=p:=by
 apply List.ext_getElem (by simp[zt]);intro c b a;simp[zt,bz,aT a]
theorem Az {q:List Rat}(h:j<p.length)(a:j<(zt p q j).length):(zt p q j)[j]=p.getD j 0:=by simp[zt]
theorem AA {q:List Rat}(h:j<p.length):(zt p q j).set j (p.getD j 0+q.getD j 0)=zt p q (j+1):=by
 apply List.ext_getElem (by simp[zt]);intro c d e;simp only[zt,List.getElem_set,List.getElem_map,List.getElem_range]
 by_cases a:j=c
 .subst a;rw[if_pos rfl,if_pos (Nat.lt_succ_self j)]
 .rw[if_neg a]
  by_cases b:c<j
  .rw[if_pos b,if_pos (by omega)]
  .rw[if_neg b,if_neg (by omega)]
end Pq
namespace Go.Proofs.YtjopfpegcckllaaGreatDoor
open Go.RowKit
theorem mR {tj tk:W}(hb:Bx 44 w g [tj,tk])(h1:Sq (cX ka) w tj ps)(h2:Sq (cX kb) w tk qs)(a9:qs.length=ps.length)(a7:ps.length<=100000000)(bC:ka<=4000000)(bD:kb<=4000000):
 aj ae 118 #[D (U ⟨g,0,none⟩) 2 2] w λe n=> ∃T,e=aw (aY #[T,J true])/\aL (ka+kb+1) w n T (Pq.zt ps qs ps.length)/\V w n:=by
 obtain⟨bh,bt,rfl⟩:=h1.form;obtain⟨B,bu,rfl⟩:=h2.form;have aG:=G (ju h1);have aH:=G (ju h2);have ay:=G h2;have v:=G a9;obtain⟨y,c1⟩:=hb.c2;have az:=G hb;clear hb h2;go_enter func118,ntmps118;go_wp2_with fail;refine(Au h1 a7 (by omega)).mono ?_;rintro e w1 ⟨aP,rfl,R,u1⟩;have u:aL (ka+kb+1) w w1 aP (Pq.zt ps qs 0):=by rw[Pq.Ay];exact R.mono (by omega)
 obtain⟨L,ag,rfl⟩:=u.form;rw[Pq.sv]at u|-;have aD:=G u;clear R u y c1;go_wp2_with fail;have aE:=G u1;clear u1 h1
 go_loopw[6,7,8,19] (λ_ _ _ F wr=> ∃m:Nat,F=H I m/\m<=1/\aL (ka+kb+1) w wr (D L ps.length ag) (Pq.zt ps qs (m*ps.length))/\V w wr) (λ_ _ _ F _=>1-(aI F).toNat)
 case atStart=>exact⟨0,rfl,by omega,by rw[Nat.zero_mul];exact aD.out,aE.out⟩
 case round=>
  obtain⟨m,rfl,bG,b,c⟩:=hrel;obtain rfl|rfl:m=0\/m=1:=by omega
  .rw[Nat.zero_mul]at b;have ab:=az.out.up c;obtain⟨y,c1⟩:=ab.c2;have bE:((qs.length:Int) !=(ps.length:Int))=false:=by rw[v.out];simp
   have N:=G b;have P:=G c;clear b c ab;go_wp2_with fail;clear y c1
   go_loopw[7,8,30] (λ_ _ K wr=> ∃a:Nat,K=H I a/\a<=ps.length/\aL (ka+kb+1) w wr (D L ps.length ag) (Pq.zt ps qs a)/\V w wr) (λ_ _ K _=>ps.length-(aI K).toNat)
   case atStart=>exact⟨0,rfl,bn _,N.out,P.out⟩
   case round=>
    clear N P;obtain⟨a,rfl,bB,b,c⟩:=hrel
    by_cases k:a<ps.length
    .have C:a<qs.length:=by rw[v.out];exact k
     obtain⟨bs,o,ar,M,an,ak,ai,ao,al,aU,hb,a5,a6,g3,f⟩:=(ay.out.up (bF kb) c).at_ (bF kb) C
     subst aU;have x:Y _:=G (Pq.AA (q:=qs) k);have l:Y (a<(Pq.zt ps qs a).length):=G (by rw[Pq.sv];exact k);have aB:Y ((Pq.zt ps qs a)[a]'l.out=ps[a]):=G (by rw[Pq.Az k l.out,Pq.oR k]);have aJ:=aG.out ps[a] (cq k);have aK:=aH.out qs[a] (cq C);rw[Pq.oR k,Pq.oR C]at x;generalize qs[a]=q at*;generalize ps[a]=p at*;have f:Fr wr (af #[J ar,D M an ak,D ai ao al]) q kb:=f;have k1:(a:Int)<(qs.length:Int):=by omega
     have bI:(a:Int)<(ps.length:Int):=by omega
     have bH:(0:Int)<=(a:Int):=by omega
     have bJ:((a:Int)).toNat=a:=by omega
     have aO:=c;obtain⟨A,_,_,_,_,_,_,_,aV,_,bA,_,_,_,_,_⟩:=aA.at_ (aR _) b l.out;subst aV;have c:V wr wr:=V.refl wr;go_wp2_with fail;generalize am:ah wr _=X at*;obtain⟨ba,d⟩:=aC am;clear am;revert f b c;revert ba;refine bX ?_;intro f b c
     have aS:=d.c3;clear a5 a6 g3;clear aS;revert d f b c;refine bf (V.refl X).drew ?_;intro d f b c
     refine aZ ?_;refine a3 (S:=λn=>n.cell? ⟨wr.heap.size,0,none⟩=U (J ar)/\n.cell? ⟨wr.heap.size,1,none⟩=U (D M an ak)/\n.cell? ⟨wr.heap.size,2,none⟩=U (D ai ao al)) (by kernel_rfl) (by exact d.c3) (λj=> ?_);generalize X.drew=bp at*;refine aa 0 ?_;refine aa 1 ?_;refine aa 2 ?_;refine aa 3 ?_;refine aa 4 ?_;refine aa 6 ?_;obtain⟨_,bO,bi,bK,bv,bk,bM,bw,z,_,_,c1,c2,c3,t,_⟩:=aA.at_ (aR _) b l.out;cases z;rw[aB.out]at t;refine bZ 5 (λr i=> ?_);clear j;go_simp;refine i.out _ _ (by exact d.c3) (λj=> ?_);clear i r
     try simp only[bc,bg]
     refine bZ 7 (λr i=> ?_);clear j;clear c1 c2 c3;go_simp;go_at_call 61;refine(gc (t.1.fr t.2) f (by omega) (by omega)).mono ?_;rintro e aQ ⟨bm,rfl,s,u2⟩;revert d b c;refine bo u2 ?_;intro d b c
     clear u2 f t;have Q:=aJ.add aK;obtain⟨bQ,aF⟩:∃bQ,Y (p+q=bQ):=⟨_,G rfl⟩;rw[aF.out]at s Q x;obtain⟨bq,br,rfl,s,au⟩:=s;obtain⟨av,bb,cz,rfl⟩:=s.shape;obtain⟨ax,bd,aT,rfl⟩:=au.shape
     try go_wp2_with fail
     refine i.out _ _ (by exact d.c3) (λj=> ?_);clear i r
     try simp only[bc,bg]
     refine aa 8 ?_;obtain⟨_,bP,bj,bL,bx,bl,bN,bz,z,_,_,c1,c2,c3,_,fr⟩:=aA.at_ (aR _) b l.out;cases z;have a1:=fr (a*3);have a2:=fr (a*3+1);have a4:=fr (a*3+2);clear fr;obtain⟨q1,_,_,aq⟩:=aA.store (aR _) b (aO.trans c) l.out (show Qk (ka+kb+1) aQ (af #[J (E.aB bQ.num),D av bb cz,D ax bd aT]) bQ from⟨⟨_,_,rfl,s,au⟩,Q⟩);rw[x.out]at q1;have aM:=G q1;have aN:=G aq;clear q1 aq;refine bZ 9 (λr i=> ?_);clear j;go_simp;refine i.out _ _ (by exact(((d.ck (p:=⟨A,a*3,none⟩) (by dsimp only;omega) _).ck (p:=⟨A,a*3+1,none⟩) (by dsimp only;omega) _).ck (p:=⟨A,a*3+2,none⟩) (by dsimp only;omega) _).c3) (λj=> ?_);clear i r
     try simp only[bc,bg]
     refine aW (by decide +kernel) (aX ?_) _;clear j c1 c2 c3 a1 a2 a4;go_wp2_with fail
     go_roundw
     case rel=>
      refine⟨_,_,_,_,_,_,_,_,_,_,_,_,_,_,_,_,_,⟨a+1,?_,by omega,aM.out,aN.out⟩,rfl⟩
      first|rfl|go_num
     case measure=>simp[aI];omega
    .obtain rfl:a=ps.length:=by omega
     have k1:¬((ps.length:Int)<(qs.length:Int)):=by rw[v.out];omega
     go_wp2_with fail;exact⟨⟨1,rfl,a8 _,by rw[Nat.one_mul];exact b,c⟩,by simp[aI]⟩
  .rw[Nat.one_mul]at b;go_wp2_with fail
   go_ret2
   exact⟨_,rfl,b,c⟩
def aU (k:Nat)(w:O)(v:W)(qs:List Rat):Prop:=Sq (cX k) w v qs
theorem aU.up {k:Nat}{w ab:O}{v:W}{qs:List Rat}(h:aU k w v qs)(a:V w ab):aU k ab v qs:=Sq.up (bF k) h a
instance aU.bW {k:Nat} {w ab:O} {v:W} {qs:List Rat}:Lu (V w ab) (aU k w v qs) (aU k ab v qs):=bu λu h=>h.up u
theorem aU.form {k:Nat}{w:O}{v:W}{qs:List Rat}(h:aU k w v qs):∃a c,v=D a qs.length c:=Sq.form h
theorem aU.sq (h:aU k w v qs):Sq (cX k) w v qs:=h
theorem aU.mono {j k:Nat}{w:O}{v:W}{qs:List Rat}(h:aU j w v qs)(a:j<=k):aU k w v qs:=Sq.imp h λb=>Fr.mono b a
theorem aU.lq (h:aU k w v qs):∀q∈qs,E.Lq q k:=ju h
theorem aL.fs (h:aL k w0 w v qs):aU k w v qs:=h.fr
theorem aL.re (h:aL j w0 w v qs)(a:∀q∈qs,E.Lq q k):aL k w0 w v qs:=by
 obtain⟨c,ha,b⟩:=h;refine⟨c,⟨ha.1,λi x q h1 h2=>⟨(ha.2 i x q h1 h2).1,a q (List.mem_of_getElem? h2)⟩⟩,b⟩
theorem dT.re {j k:Nat}{qs:List Rat}{w:O}{e:aO}{ab:O}(h:dT j qs w e ab)(c:∀q∈qs,E.Lq q k):dT k qs w e ab:=by
 obtain⟨a,h1,h2,b⟩:=h;exact⟨a,h1,h2.re c,b⟩
theorem AB {xs:List F3}(hb:Bx 53 w g (aS xs))(ha:Al (λx q=>cX k w x.agg q) xs qs)(j:qs.length<=1000000):aU k w (D (U ⟨g,0,none⟩) qs.length qs.length) qs:=by
 have e:∀x∈xs,x.ok:=λx f=>by
  obtain⟨b,a⟩:=List.getElem?_of_mem f;have d:b<qs.length:=by rw[<-ha.1];exact(List.getElem?_eq_some_iff.1 a).1
  obtain⟨l,c,i⟩:=(bF k).form (ha.2 b x _ a (aT d));rw[F3.nI c];exact i
 have:aA (cX k) 53 0 w (D (U ⟨g,0,none⟩) xs.length xs.length) qs:=⟨xs,ha,e,.inr ⟨g,[],rfl,bn _,by rw[List.append_nil];exact hb,by simp,by rw[ha.1];simp[cm];omega⟩⟩;rw[ha.1]at this;exact this.sq
theorem AC {s1 s2:Bool}{u1 d1 u2 d2:W}{q1 q2:Rat}(hb:Bx 53 w g [J s1,u1,d1,J s2,u2,d2])(h1:Fr w (af #[J s1,u1,d1]) q1 k)(h2:Fr w (af #[J s2,u2,d2]) q2 k):aU k w (D (U ⟨g,0,none⟩) 2 2) [q1,q2]:=
 AB (xs:=[⟨s1,u1,d1⟩,⟨s2,u2,d2⟩]) hb ((Al.one (R:=λx q=>cX k w x.agg q) (x:=⟨s1,u1,d1⟩) h1).append (Al.one h2)) (by simp)
def dB (k:Nat)(w0 w:O)(v:W)(qs:List Rat):Prop:=aA (cX k) 53 w0.heap.size w v qs
theorem dB.up {k:Nat}{w0 w ab:O}{v:W}{qs:List Rat}(h:dB k w0 w v qs)(a:V w ab):dB k w0 ab v qs:=aA.up (bF k) h a
instance dB.bW {k:Nat} {w0 w ab:O} {v:W} {qs:List Rat}:Lu (V w ab) (dB k w0 w v qs) (dB k w0 ab v qs):=bu λu h=>h.up u
theorem dB.form {k:Nat}{w0 w:O}{v:W}{qs:List Rat}(h:dB k w0 w v qs):∃a c,v=D a qs.length c:=aA.form h
theorem dB.fs (h:dB k w0 w v qs):aU k w v qs:=aA.sq h
theorem dB.at_ {k:Nat}{w0 w:O}{A:Option am}{n c:Nat}{qs:List Rat}(h:dB k w0 w (D A n c) qs){j:Nat}(d:j<qs.length):
 ∃g s B m f ai b a,A=U ⟨g,0,none⟩/\w0.heap.size<=g/\g<w.heap.size/\w.cell? ⟨g,j*3,none⟩=U (J s)/\w.cell? ⟨g,j*3+1,none⟩=U (D B m f)/\w.cell? ⟨g,j*3+2,none⟩=U (D ai b a)/\Fr w (af #[J s,D B m f,D ai b a]) qs[j] k/\(∀i,w.frozen? ⟨g,i,none⟩=false):=aA.at_ (bF k) h d
theorem dB.place (h:dB k w0 w (D A n c) qs)(b:0<qs.length):∃g,A=U ⟨g,0,none⟩/\w0.heap.size<=g/\g<w.heap.size:=by
 obtain⟨g,_,_,_,_,_,_,_,h1,h2,a,_⟩:=h.at_ b;exact⟨g,h1,h2,a⟩
theorem dB.store {K:Nat}{w0 w:O}{g n c:Nat}{qs:List Rat}(h:dB K w0 w (D (U ⟨g,0,none⟩) n c) qs)(f:V w0 w){k:Nat}(b:k<qs.length){s:Bool}{u d:W}{q:Rat}(e:Fr w (af #[J s,u,d]) q K):
 dB K w0 (((w.setCell ⟨g,k*3,none⟩ (J s)).setCell ⟨g,k*3+1,none⟩ u).setCell ⟨g,k*3+2,none⟩ d) (D (U ⟨g,0,none⟩) n c) (qs.set k q)/\Kw w (((w.setCell ⟨g,k*3,none⟩ (J s)).setCell ⟨g,k*3+1,none⟩ u).setCell ⟨g,k*3+2,none⟩ d)/\
  V w0 (((w.setCell ⟨g,k*3,none⟩ (J s)).setCell ⟨g,k*3+1,none⟩ u).setCell ⟨g,k*3+2,none⟩ d):=by
 obtain⟨h1,h2,_,a⟩:=aA.store (bF K) h f b e;exact⟨h1,h2,a⟩
theorem dB.other {lW:Nat}(h:dB k w0 w (D (U ⟨g,0,none⟩) n c) qs)(b:Kw w ab)(a:w.grownBy ab (U lW))(d:g≠lW):dB k w0 ab (D (U ⟨g,0,none⟩) n c) qs:=
 aA.kept (bF k) h b a (.inr (by simpa[Value.ownBlock]using d))
theorem aL.o (h:aL j w0 w v qs)(b:∀q∈qs,E.Lq q k):dB k w0 w v qs:=aA.imp (h.re b) λa=>a.1.fr a.2
theorem dB.weaken {k:Nat}{w0 w1 w:O}{v:W}{qs:List Rat}(h:dB k w1 w v qs)(a:V w0 w1):dB k w0 w v qs:=aA.weaken h a.size
end Go.Proofs.YtjopfpegcckllaaGreatDoor
namespace Pq
theorem Hc (p q:List Rat)(h:nm q≠[]):nm (nm (add (nm (mul (oZ p q) q)) (o0 p q)))=nm p:=ge λa=>by
 rw[d9,ff,d9,cP];exact((z1 h).1 a).symm
end Pq
namespace Go.Proofs.YtjopfpegcckllaaGreatDoor
open Go.RowKit
def hf (w:O)(v:W)(rs:List ay):Prop:=Sq Rw w v rs
theorem hf.up {w ab:O}{v:W}{rs:List ay}(h:hf w v rs)(a:V w ab):hf ab v rs:=Sq.up cG h a
instance hf.bW {w ab:O} {v:W} {rs:List ay}:Lu (V w ab) (hf w v rs) (hf ab v rs):=bu λu h=>h.up u
theorem hf.form {w:O}{v:W}{rs:List ay}(h:hf w v rs):∃a c,v=D a rs.length c:=Sq.form h
theorem hf.fs {rs:List ay}(h:hf w v rs)(a:∀r∈rs,r.bd k)(h1:1<=k):aU k w v (rs.map ay.val):=Sq.GL h a h1
end Go.Proofs.YtjopfpegcckllaaGreatDoor
namespace Pq
def pd (p q:List Rat):List Rat:=if nm q=[]then[1]else q
theorem Lp.fst {q:List Rat}{u:Nat}(h:Lp (p++q) u):Lp p u:=h.sub λx a=>List.mem_append.2 (.inl a)
theorem Lp.snd {q:List Rat}{u:Nat}(h:Lp (p++q) u):Lp q u:=h.sub λx a=>List.mem_append.2 (.inr a)
def mT (u d v e:List Rat):List Rat:=nm (add (nm (mul u e)) (nm (mul v d)))
theorem tm (u d v e:List Rat)(x:Rat):aq (mT u d v e) x=aq u x*aq e x+aq v x*aq d x:=by unfold mT;rw[d9,ff,d9,d9,cP,cP]
theorem jv (u d:List Rat)(x:Rat):aq (nm (mul u d)) x=aq u x*aq d x:=by rw[d9,cP]
theorem tn {q:List Rat}(a:nm p≠[])(b:nm q≠[]):nm (nm (mul p q))≠[]:=by
 rw[jr];intro c;have d:=mD a b;rw[sV c]at d;have:=mC a;have:=mC b;omega
theorem Can.self {q:List Rat}(h:Can p q aM ai):Can aM ai aM ai:=⟨h.tr,h.mo,h.ne,λx=>rfl,h.mG⟩
theorem Can.nd {q:List Rat}(h:Can p q aM ai):nm ai≠[]:=by rw[eV h.mo.tr];exact h.ne
theorem Can.wA {q pf fc:List Rat}(d:nm q≠[])(h:Can p q aM ai)(c:∀x,aq p x*aq fc x=aq pf x*aq q x):Can pf fc aM ai:=
 ⟨h.tr,h.mo,h.ne,λx=>by
   have:=o2 (p:=mul aM fc) (q:=mul pf ai) (r:=q) (λx=>by
    have a:=h.eq x;have b:=c x;rw[cP,cP]
    calc aq aM x*aq fc x*aq q x=(aq aM x*aq q x)*aq fc x:=by grind
     _=(aq p x*aq fc x)*aq ai x:=by rw[a];grind
     _=_:=by rw[b];grind) d x
   rwa [cP,cP]at this,h.mG⟩
theorem Can.dvd {q:List Rat}(h:Can p q aM ai):Dv ai q:=by
 obtain⟨s,t,e⟩:=h.mG;refine⟨add (mul s p) (mul t q),λx=> ?_⟩;have a:=e x;have b:=h.eq x;rw[ff,cP,cP]
 calc aq q x=(aq s x*aq aM x+aq t x*aq ai x)*aq q x:=by rw[a,Rat.one_mul]
  _=aq s x*(aq aM x*aq q x)+aq t x*aq ai x*aq q x:=by grind
  _=_:=by rw[b];grind
theorem Can.val {q:List Rat}(h:Can p q aM ai){z:Rat}(b:aq q z≠0):aq ai z≠0/\aq aM z/aq ai z=aq p z/aq q z:=by
 obtain⟨u,c⟩:=h.dvd;have a:aq ai z≠0:=λe=>b (by rw[c,e,Rat.mul_zero])
 refine⟨a,?_⟩;have e:=h.eq z;have i1:=Rat.mul_inv_cancel _ a;have i2:=Rat.mul_inv_cancel _ b;rw[Rat.div_def,Rat.div_def]
 calc aq aM z*(aq ai z)⁻¹=(aq aM z*aq q z)*(aq ai z)⁻¹*(aq q z)⁻¹:=by
       calc _=aq aM z*(aq ai z)⁻¹*(aq q z*(aq q z)⁻¹):=by rw[i2,Rat.mul_one]
        _=_:=by grind
  _=(aq ai z*(aq ai z)⁻¹)*(aq p z*(aq q z)⁻¹):=by rw[e];grind
  _=_:=by rw[i1,Rat.one_mul]
theorem Can.zero {q:List Rat}(a:nm q≠[])(h:Can p q aM ai):aM=[]↔nm p=[]:=by
 constructor
 .intro e;refine o1 (q:=ai) (λx=> ?_) h.nd;rw[<-h.eq,e,gR,Rat.zero_mul]
 .intro e;have:=o1 (p:=aM) (q:=q) (λx=>by rw[h.eq,i3 e,Rat.zero_mul]) a
  rwa [eV h.tr]at this
theorem Can.len {p q aM ai:List Rat}(a:nm q≠[])(h:Can p q aM ai):ai.length<=ln q/\(aM.length<=ln p):=by
 have d:ai.length<=ln q:=h.dvd.len h.mo.tr a;refine⟨d,?_⟩
 by_cases b:aM=[]
 .rw[b];simp
 have c:nm aM≠[]:=by rw[eV h.tr];exact b
 have f:nm p≠[]:=λe=>b ((h.zero a).2 e)
 have l1:=mD c a;have l2:=mD f h.nd;have l3:ln (mul aM q)=ln (mul p ai):=z3 λx=>by rw[cP,cP,h.eq]
 rw[sU h.tr]at l1;rw[sU h.mo.tr]at l2;omega
theorem Can.sum {u v:List Rat}(f:nm d≠[])(g:nm e≠[])(h1:Can u d aM ai)(h2:Can v e bi F)(c:Can (mT u d v e) (nm (mul d e)) P Q):Can (mT aM ai bi F) (nm (mul ai F)) P Q:=
 c.wA (tn f g) λx=>by
  have a:=h1.eq x;have b:=h2.eq x;rw[tm,tm,jv,jv]
  calc (aq u x*aq e x+aq v x*aq d x)*(aq ai x*aq F x)=(aq u x*aq ai x)*aq e x*aq F x+(aq v x*aq F x)*aq d x*aq ai x:=by grind
   _=(aq aM x*aq d x)*aq e x*aq F x+(aq bi x*aq e x)*aq d x*aq ai x:=by rw[a,b]
   _=_:=by grind
theorem Can.over {u v:List Rat}(f:nm d≠[])(g:nm v≠[])(h1:Can u d aM ai)(h2:Can v e bi F)(c:Can (nm (mul u e)) (nm (mul d v)) P Q):Can (nm (mul aM F)) (nm (mul ai bi)) P Q:=
 c.wA (tn f g) λx=>by
  have a:=h1.eq x;have b:=h2.eq x;rw[jv,jv,jv,jv]
  calc (aq u x*aq e x)*(aq ai x*aq bi x)=(aq u x*aq ai x)*(aq bi x*aq e x):=by grind
   _=(aq aM x*aq d x)*(aq v x*aq F x):=by rw[a,b]
   _=_:=by grind
end Pq
namespace Go.Proofs.YtjopfpegcckllaaGreatDoor
open Go.RowKit
def aF (k:Nat)(w:O)(v:W)(qs:List Rat):Prop:=aA (Qk k) 53 0 w v qs
theorem aF.up {k:Nat}{w ab:O}{v:W}{qs:List Rat}(h:aF k w v qs)(a:V w ab):aF k ab v qs:=aA.up (aR k) h a
instance aF.bW {k:Nat} {w ab:O} {v:W} {qs:List Rat}:Lu (V w ab) (aF k w v qs) (aF k ab v qs):=bu λu h=>h.up u
theorem aF.form {k:Nat}{w:O}{v:W}{qs:List Rat}(h:aF k w v qs):∃a c,v=D a qs.length c:=aA.form h
theorem aL.a (h:aL k w0 w v qs):aF k w v qs:=aA.weaken h (bn _)
theorem aF.fs (h:aF k w v qs):aU k w v qs:=Sq.imp (aA.sq h) λa=>a.1.fr a.2
theorem aF.mono {j k:Nat}{w:O}{v:W}{qs:List Rat}(h:aF j w v qs)(a:j<=k):aF k w v qs:=aA.imp h λb=>b.mono a
def AD (k:Nat)(qs:List Rat)(w:O)(e:aO)(b:O):Prop:= ∃a,e=aw a/\aF k b a qs/\V w b
theorem eu {P:O->W->α->Prop}{qs:List α}(h:aA P T base w v qs)(hb:Bx S w g vs)(c:T≠S):v.ownBlock≠U g:=by
 obtain⟨k,ha,d⟩:=h;rcases d.2 with⟨rfl,rfl⟩|⟨e,l,rfl,f,a,j,i⟩
 .simp[Value.ownBlock]
 .intro b;simp[Value.ownBlock]at b;subst b;unfold Bx at hb a;rw[hb]at a;simp at a;exact c a.2.symm
theorem aL.stored (h:aL k w0 w v qs)(hb:Bx S w g vs)(c:53≠S)(b:Kw w (w.setCell ⟨g,i,none⟩ x)):aL k w0 (w.setCell ⟨g,i,none⟩ x) v qs:=
 aA.kept (aR k) h b (row:=U g) ⟨rfl,rfl,rfl,by simp[ag],λj d a=>Below.heap_setCell _ _ _ _ (by simp;exact λe=>a (by rw[e]))⟩ (.inr (eu h hb c))
theorem aF.stored (h:aF k w v qs)(hb:Bx S w g vs)(c:53≠S)(b:Kw w (w.setCell ⟨g,i,none⟩ x)):aF k (w.setCell ⟨g,i,none⟩ x) v qs:=
 aA.kept (aR k) h b (row:=U g) ⟨rfl,rfl,rfl,by simp[ag],λj d a=>Below.heap_setCell _ _ _ _ (by simp;exact λe=>a (by rw[e]))⟩ (.inr (eu h hb c))
theorem ef {P:O->W->α->Prop}(c:Kp P){qs:List α}(h:aA P S base w v qs)(b:Bs T g w ab old new)(a:S≠T):aA P S base ab v qs:=
 aA.kept c h b.kw b.gr (.inr (eu h b.old a))
theorem aF.bs (h:aF k w v qs)(b:Bs T g w ab old new)(a:53≠T:=by decide):aF k ab v qs:=ef (aR k) h b a
theorem aF.eF (h:aF k w v qs)(b:Bs T g w ab old new)(a:v.ownBlock≠U g):aF k ab v qs:=aA.kept (aR k) h b.kw b.gr (.inr a)
theorem aL.bs (h:aL k w0 w v qs)(b:Bs T g w ab old new)(a:53≠T:=by decide):aL k w0 ab v qs:=ef (aR k) h b a
def Z.right (r:ay):Bool:=d0 r.1 (E.aB r.val.num) r.2.1 (E.words r.val.num.natAbs) r.2.2 (E.words r.val.den)
def Z.dP (ar par:Int)(k:Nat)(i:ba):Bool:=
 if i.op=1 then(decide (i.a=0/\i.b=0)&&Z.right i.n)else if Z.blank i.n=false then false else if(Z.reads i).all (λr=>Z.below r k)=false then false else
 if i.op=2 then decide (i.a=0/\i.b=0)else if i.op=3 then(Z.below i.a ar&&decide (i.b=0))else if i.op=4 then(Z.below i.a par&&decide (i.b=0))else
 if i.op=6 then decide (i.b=0)else if i.op=11 then decide (-8<=i.b/\i.b<=8)else decide ((Z.reads i).length=2)
theorem AG {code:List ba}(h:Sn dc w (D A code.length c) code)(Q:k<code.length)(z:code[k].op=1)(y:code[k].n.bd 1000000):
 aj ae 138 #[af #[D A code.length c,D B no cb,H I ar,H I par],H I (k:Int)] w λe T=>e=aw (J (Z.dP ar par k code[k]))/\V w T:=by
 obtain⟨v,o,av,C,hb,R,i⟩:=h.at_ (cV 0) (by omega) Q;subst C;generalize code[k]=S at*;obtain⟨aq,a,j,b⟩:=S;simp only at z y;subst z;obtain⟨au,ab,rfl,f,g,_,_,_⟩:=R;simp only at f g i|-;obtain⟨t,c1,rfl⟩:=f.form;obtain⟨u,d1,rfl⟩:=g.form;have x:=i 0 _ rfl;have F:=i 1 _ rfl;have K:=i 2 _ rfl;have g3:=i 3 _ rfl;have L:=i 4 _ rfl;have M:=i 5 _ rfl;rw[Nat.add_zero]at x;have k1:(k:Int)<(code.length:Int):=by omega
 have al:(0:Int)<=(k:Int):=by omega
 have an:((k:Int)).toNat=k:=by omega
 clear i h;have d:V w ((w.alloc (ao #[D (U ⟨v,o,none⟩) code.length c,D B no cb,H I ar,H I par] 43)).alloc (ao #[H I 1,H I a,H I j,J b.1,D t b.2.1.length c1,D u b.2.2.length d1] 114)):=((V.refl w).alloc _).alloc _;obtain⟨l,n⟩:=f6 43 114 w [D (U ⟨v,o,none⟩) code.length c,D B no cb,H I ar,H I par] [H I 1,H I a,H I j,J b.1,D t b.2.1.length c1,D u b.2.2.length d1];go_enter func138,ntmps138;go_wp2_with fail;generalize((w.alloc (ao #[D (U ⟨v,o,none⟩) code.length c,D B no cb,H I ar,H I par] 43)).alloc (ao #[H I 1,H I a,H I j,J b.1,D t b.2.1.length c1,D u b.2.2.length d1] 114))=W at*;replace f:=f.up d;replace g:=g.up d;clear x F K g3 L M;have r:=l.c4;have s:=n.c6
 with_reducible refine(mJ 1 a j _ _ _ _).mono ?_
 rintro e X ⟨rfl,u51⟩;revert d l n f g r s;revert u51;refine eR ?_;intro d l n f g r s
 by_cases m:a=0/\j=0
 .obtain⟨rfl,rfl⟩:=m;have p:Y (Z.dP ar par k ⟨1,0,0,b⟩=d0 b.1 (E.aB b.val.num) b.2.1 (E.words b.val.num.natAbs) b.2.2 (E.words b.val.den)):=G (by simp[Z.dP,Z.right]);obtain⟨ai,ak⟩:=y;go_wp2_with fail
  with_reducible refine(mQ f g (q:=b.val) rfl (by omega) (by omega)).mono ?_
  rintro e aa ⟨rfl,u52⟩;revert d l f g r n s;revert u52;refine eR ?_;intro d l f g r n s
  go_wp2;go_ret;exact⟨by rw[p.out];rfl,d⟩
 .have p:Y (Z.dP ar par k ⟨1,a,j,b⟩=false):=G (by simp[Z.dP];intro N P;exact absurd ⟨N,P⟩ m)
  by_cases ha:a=0
  .subst ha;have ah:(j==0)=false:=by simp;intro h;exact m ⟨rfl,h⟩
   clear m;go_wp2;go_ret;exact⟨by rw[p.out];rfl,d⟩
  .have ag:(a==0)=false:=by simpa using ha
   clear m ha;go_wp2;go_ret;exact⟨by rw[p.out];rfl,d⟩
theorem AH {code:List ba}(h:Sn dc w (D A code.length c) code)(K:k<code.length)(s:code[k].op≠1)(x:Z.blank code[k].n=false):
 aj ae 138 #[af #[D A code.length c,D B no cb,H I ar,H I par],H I (k:Int)] w λe R=>e=aw (J false)/\V w R:=by
 obtain⟨n,o,ag,z,hb,P,d⟩:=h.at_ (cV 0) (by omega) K;subst z;generalize code[k]=Q at*;obtain⟨j,a,q,b⟩:=Q;simp only at s x;obtain⟨ab,W,rfl,f,g,L,M,N⟩:=P;simp only at f g d L M N|-;obtain⟨l,c1,rfl⟩:=f.form;obtain⟨m,d1,rfl⟩:=g.form;have v:=d 0 _ rfl;have C:=d 1 _ rfl;have E:=d 2 _ rfl;have g3:=d 3 _ rfl;have F:=d 4 _ rfl;have G:=d 5 _ rfl;rw[Nat.add_zero]at v;have k1:(k:Int)<(code.length:Int):=by omega
 have X:(0:Int)<=(k:Int):=by omega
 have Y:((k:Int)).toNat=k:=by omega
 clear d h;have i:V w ((w.alloc (ao #[D (U ⟨n,o,none⟩) code.length c,D B no cb,H I ar,H I par] 43)).alloc (ao #[H I j,H I a,H I q,J b.1,D l b.2.1.length c1,D m b.2.2.length d1] 114)):=((V.refl w).alloc _).alloc _;obtain⟨p,t⟩:=f6 43 114 w [D (U ⟨n,o,none⟩) code.length c,D B no cb,H I ar,H I par] [H I j,H I a,H I q,J b.1,D l b.2.1.length c1,D m b.2.2.length d1];have aa:(j==1)=false:=by simpa using s
 clear s;go_enter func138,ntmps138;go_wp2_with fail;generalize((w.alloc (ao #[D (U ⟨n,o,none⟩) code.length c,D B no cb,H I ar,H I par] 43)).alloc (ao #[H I j,H I a,H I q,J b.1,D l b.2.1.length c1,D m b.2.2.length d1] 114))=S at*;replace f:=f.up i;replace g:=g.up i;clear v C E g3 F G;have u:=p.c4;have y:=t.c6
 with_reducible refine(ta (r:=b) _).mono ?_
 rintro e T ⟨rfl,u51⟩;revert i p t f g u y;revert u51;refine eR ?_;intro i p t f g u y;rw[x];go_wp2;go_ret;exact⟨rfl,i⟩
def c0 (w:O)(v:W)(l:List Int):Prop:=Sn eX w v l
theorem c0.up {w ab:O}{v:W}{l:List Int}(h:c0 w v l)(a:V w ab):c0 ab v l:=Sn.up (i4 0) h a
instance c0.bW {w ab:O} {v:W} {l:List Int}:Lu (V w ab) (c0 w v l) (c0 ab v l):=bu λu h=>h.up u
theorem c0.form {w:O}{v:W}{l:List Int}(h:c0 w v l):∃a c,v=D a l.length c:=Sn.form h
theorem c0.at_ {w:O}{A:Option am}{m c:Nat}{l:List Int}(h:c0 w (D A m c) l){k:Nat}(d:k<l.length):∃b o,A=U ⟨b,o,none⟩/\b<w.heap.size/\w.cell? ⟨b,o+k,none⟩=U (H I l[k]):=by
 obtain⟨b,o,x,e,hb,f,a⟩:=Sn.at_ (i4 0) (by omega) h d;cases f;exact⟨b,o,e,hb,by have:=a 0 _ rfl;rwa [Nat.mul_one,Nat.add_zero]at this⟩
theorem tp (i:ba)(s:Bool)(u d:W)(w:O):aj ae 173 #[af #[H I i.op,H I i.a,H I i.b,J s,u,d]] w λe b=> ∃a,e=aw a/\c0 b a (Z.reads i)/\V w b:=Aj i s u d w
theorem AI {code:List ba}(h:Sn dc w (D A code.length c) code)(aK:k<code.length)(ab:code[k].op≠1)(Q:Z.blank code[k].n=true):
 aj ae 138 #[af #[D A code.length c,D B no cb,H I ar,H I par],H I (k:Int)] w λe p=>e=aw (J (Z.dP ar par k code[k]))/\V w p:=by
 obtain⟨aa,o,z,aD,hb,aP,s⟩:=h.at_ (cV 0) (by omega) aK;subst aD;generalize code[k]=aQ at*;obtain⟨f,a,d,m⟩:=aQ;simp only at ab Q;obtain⟨bk,a2,rfl,t,u,aM,aN,aO⟩:=aP;simp only at t u s aM aN aO|-;obtain⟨T,c1,rfl⟩:=t.form;obtain⟨W,d1,rfl⟩:=u.form;have ai:=s 0 _ rfl;have aF:=s 1 _ rfl;have ak:=s 2 _ rfl;have g3:=s 3 _ rfl;have aG:=s 4 _ rfl;have aH:=s 5 _ rfl;rw[Nat.add_zero]at ai;have k1:(k:Int)<(code.length:Int):=by omega
 have a9:(0:Int)<=(k:Int):=by omega
 have bb:((k:Int)).toNat=k:=by omega
 clear s h;have g:V w ((w.alloc (ao #[D (U ⟨aa,o,none⟩) code.length c,D B no cb,H I ar,H I par] 43)).alloc (ao #[H I f,H I a,H I d,J m.1,D T m.2.1.length c1,D W m.2.2.length d1] 114)):=((V.refl w).alloc _).alloc _;obtain⟨E,L⟩:=f6 43 114 w [D (U ⟨aa,o,none⟩) code.length c,D B no cb,H I ar,H I par] [H I f,H I a,H I d,J m.1,D T m.2.1.length c1,D W m.2.2.length d1];have av:(f==1)=false:=by simpa using ab
 clear ab;go_enter func138,ntmps138;go_wp2_with fail;generalize((w.alloc (ao #[D (U ⟨aa,o,none⟩) code.length c,D B no cb,H I ar,H I par] 43)).alloc (ao #[H I f,H I a,H I d,J m.1,D T m.2.1.length c1,D W m.2.2.length d1] 114))=aX at*;replace t:=t.up g;replace u:=u.up g;clear ai aF ak g3 aG aH;have M:=E.c4;have S:=L.c6
 with_reducible refine(ta (r:=m) _).mono ?_
 rintro e aY ⟨rfl,u51⟩;revert g E L t u M S;revert u51;refine eR ?_;intro g E L t u M S;rw[Q];go_wp2_with fail
 with_reducible refine(tp ⟨f,a,d,m⟩ _ _ _ _).mono ?_
 rintro e aZ ⟨aV,rfl,r,u52⟩;revert g E L t u M S;revert u52;refine eR ?_;intro g E L t u M S;obtain⟨aS,aT,rfl⟩:=r.form;have aL:(Z.reads ⟨f,a,d,m⟩).length<=2:=by unfold Z.reads;split<;>(try split)<;>simp
 obtain⟨j,C⟩:∃j,Y (Z.reads ⟨f,a,d,m⟩=j):=⟨_,G rfl⟩;rw[C.out]at r aL|-;go_wp2_with fail
 go_loop [7,32] (λ_ ag=> ∃l:Nat,ag=H I (l:Int)/\l<=j.length/\Y (∀z∈j.take l,Z.below z k=true)) (λ_ ag=>j.length-(aI ag).toNat)
 case atStart=>exact⟨0,rfl,bn _,G (by simp)⟩
 case round=>
  obtain⟨l,rfl,a5,X⟩:=hrel
  by_cases R:l<j.length
  .obtain⟨a1,bj,aE,al,ak⟩:=r.at_ R;subst aE;have aC:Y (j.take (l+1)=j.take l++[j[l]]):=G (List.take_succ_eq_append_getElem R);have aB:Y (j[l]∈j):=G (cq R);generalize j[l]=ay at*;have a7:(l:Int)<(j.length:Int):=by omega
   have a6:(0:Int)<=(l:Int):=by omega
   have a8:((l:Int)).toNat=l:=by omega
   cases an:Z.below ay k
   .have b:Y (Z.dP ar par k ⟨f,a,d,m⟩=false):=G (by
     unfold Z.dP;rw[if_neg (by simpa using av),if_neg (by simp[Q]),C.out,if_pos];exact Bool.eq_false_iff.2 λaJ=>by have:=List.all_eq_true.1 aJ ay aB.out;rw[an]at this;cases this)
    go_wp2_with(go_at_call 139;refine(fj _ _ _).mono ?_;rintro e p ⟨rfl,rfl⟩);go_ret;exact⟨by rw[b.out];rfl,g⟩
   .have az:Y (∀z∈j.take (l+1),Z.below z k=true):=G (by
     intro z au;rw[aC.out]at au;rcases List.mem_append.1 au with N|N
     .exact X.out z N
     .simp at N;subst N;exact an)
    go_wp2_with(go_at_call 139;refine(fj _ _ _).mono ?_;rintro e p ⟨rfl,rfl⟩)
    go_round
    case rel=>exact⟨l+1,by go_num,by omega,az⟩
    case measure=>simp[aI];omega
  .obtain rfl:l=j.length:=by omega
   have ah:Y ((Z.reads ⟨f,a,d,m⟩).all (λr=>Z.below r k)=true):=G (by
    rw[C.out];have:=X.out;rw[co]at this;exact List.all_eq_true.2 this)
   have b:Y (Z.dP ar par k ⟨f,a,d,m⟩=(if f=2 then decide (a=0/\d=0)else if f=3 then(Z.below a ar&&decide (d=0))else if f=4 then(Z.below a par&&decide (d=0))else
    if f=6 then decide (d=0)else if f=11 then decide (-8<=d/\d<=8)else decide (j.length=2))):=G (by
    unfold Z.dP;rw[if_neg (by simpa using av),if_neg (by simp[Q]),ah.out,if_neg (by simp),C.out])
   clear R ah X
   by_cases n:f=2
   .subst n
    by_cases y:a=0/\d=0
    .obtain⟨rfl,rfl⟩:=y;go_wp2_with fail;refine(mJ 2 0 0 _ _ _ _).mono ?_;rintro e p ⟨rfl,u9⟩;go_wp2;go_ret;exact⟨by rw[b.out];rfl,g.trans u9⟩
    .have aq:decide (a=0/\d=0)=false:=decide_eq_false y;have aR:Y (((2:Int)=2/\a=0/\d=0)=False):=G (by simp;intro h;exact λn=>y ⟨h,n⟩);rw[if_pos rfl,aq]at b;clear aq
     by_cases ha:a=0
     .subst ha;have i:(d==0)=false:=by simp;intro h;exact y ⟨rfl,h⟩
      clear y;go_wp2_with fail;refine(mJ 2 0 d _ _ _ _).mono ?_;rintro e p ⟨rfl,u9⟩;go_wp2;go_ret;exact⟨by rw[b.out];rfl,g.trans u9⟩
     .have a3:(a==0)=false:=by simpa using ha
      clear y ha;go_wp2_with fail;refine(mJ 2 a d _ _ _ _).mono ?_;rintro e p ⟨rfl,u9⟩;go_wp2;go_ret;exact⟨by rw[b.out];rfl,g.trans u9⟩
   rw[if_neg n]at b;have bf:(f==2)=false:=by simpa using n
   by_cases q:f=3
   .subst q;rw[if_pos rfl]at b;cases K:Z.below a ar
    .rw[K]at b;clear n;go_wp2_with(go_at_call 139;refine(fj _ _ _).mono ?_;rintro e p ⟨rfl,rfl⟩);go_ret;exact⟨by rw[b.out];rfl,g⟩
    .rw[K]at b
     by_cases i:d=0
     .subst i;clear n;go_wp2_with(go_at_call 139;refine(fj _ _ _).mono ?_;rintro e p ⟨rfl,rfl⟩);go_ret;exact⟨by rw[b.out];rfl,g⟩
     .have v:(d==0)=false:=by simpa using i
      rw[decide_eq_false i]at b;clear i n;go_wp2_with(go_at_call 139;refine(fj _ _ _).mono ?_;rintro e p ⟨rfl,rfl⟩);go_ret;exact⟨by rw[b.out];rfl,g⟩
   rw[if_neg q]at b;have bg:(f==3)=false:=by simpa using q
   by_cases x:f=4
   .subst x;rw[if_pos rfl]at b;cases K:Z.below a par
    .rw[K]at b;clear n q;go_wp2_with(go_at_call 139;refine(fj _ _ _).mono ?_;rintro e p ⟨rfl,rfl⟩);go_ret;exact⟨by rw[b.out];rfl,g⟩
    .rw[K]at b
     by_cases i:d=0
     .subst i;clear n q;go_wp2_with(go_at_call 139;refine(fj _ _ _).mono ?_;rintro e p ⟨rfl,rfl⟩);go_ret;exact⟨by rw[b.out];rfl,g⟩
     .have v:(d==0)=false:=by simpa using i
      rw[decide_eq_false i]at b;clear i n q;go_wp2_with(go_at_call 139;refine(fj _ _ _).mono ?_;rintro e p ⟨rfl,rfl⟩);go_ret;exact⟨by rw[b.out];rfl,g⟩
   rw[if_neg x]at b;have bh:(f==4)=false:=by simpa using x
   by_cases F:f=6
   .subst F;rw[if_pos rfl]at b;clear n q x
    by_cases i:d=0
    .subst i;go_wp2;go_ret;exact⟨by rw[b.out];rfl,g⟩
    .have v:(d==0)=false:=by simpa using i
     rw[decide_eq_false i]at b;clear i;go_wp2;go_ret;exact⟨by rw[b.out];rfl,g⟩
   rw[if_neg F]at b;have bi:(f==6)=false:=by simpa using F
   by_cases P:f=11
   .subst P;rw[if_pos rfl]at b;clear n q x F
    by_cases i: -8<=d
    .by_cases v:d<=8
     .rw[decide_eq_true ⟨i,v⟩]at b;go_wp2;go_ret;exact⟨by rw[b.out];rfl,g⟩
     .have al:decide (d<=8)=false:=decide_eq_false v;rw[decide_eq_false (λh=>v h.2)]at b;clear v;go_wp2;go_ret;exact⟨by rw[b.out];rfl,g⟩
    .have al:decide (d>= -8)=false:=decide_eq_false i;have a4:decide (-8<=d)=false:=decide_eq_false i;rw[decide_eq_false (λh=>i h.1)]at b;clear i;go_wp2;go_ret;exact⟨by rw[b.out];rfl,g⟩
   rw[if_neg P]at b;have bd:(f==11)=false:=by simpa using P
   clear n q x F P;go_wp2_with fail;refine(tp ⟨f,a,d,m⟩ _ _ _ _).mono ?_;rintro e p ⟨aW,rfl,ax,u9⟩;rw[C.out]at ax;obtain⟨R2,aU,rfl⟩:=ax.form;have aA:Y (decide (j.length=2)=((j.length:Int)==2)):=G (by rw[Bool.eq_iff_iff];simp;omega);rw[aA.out]at b;go_wp2;go_ret;exact⟨by rw[b.out];rfl,g.trans u9⟩
theorem AJ {q:Rat}(h:Fr w v q k)(Q:k<=10000000):aj ae 271 #[af #[az (U ⟨g,0,none⟩)],v] w (dq (q) w):=by
 obtain⟨B,rfl,⟨i,s,c1,o⟩,⟨j,t,d1,p⟩⟩:=(bF k).form h;obtain⟨x,u0,N⟩:=B;simp only at o p;subst o p;have b:Fr w (af #[J x,D i s c1,D j t d1]) q k:=h;clear h;obtain⟨z,l⟩:∃z,Y (q=z):=⟨_,G rfl⟩;rw[l.out];show aj ae 271 #[af #[az (U ⟨g,0,none⟩)],af #[J x,D i s c1,D j t d1]] w _;go_enter func271,ntmps271;go_wp2_with fail;generalize r:ah (ah (ah w _) _) _=H at*;obtain⟨d,e,f,a⟩:=dm r;clear r;replace b:=b.up d;have m:=e.c1;have n:=f.c3;have u:=a.c3;have A:=a.free
 with_reducible refine(dx b (by omega)).mono ?_
 rintro P I ⟨F,rfl,c,u1⟩;revert d e f a b m n u;refine b9 u1 ?_;intro d e f a b m n u;replace A:=a.free;clear u1;rw[l.out]at c;obtain⟨K,L,rfl,c,y⟩:=c;obtain⟨C,R,cy,rfl⟩:=c.shape;obtain⟨E,S,M,rfl⟩:=y.shape;go_wp2_with fail;exact di rfl rfl rfl ⟨_,_,rfl,c,y⟩ a trivial trivial trivial d (by omega)
theorem AK {q:Rat}(h:Fr w v q k)(Q:k<=10000000):aj ae 270 #[af #[az (U ⟨g,0,none⟩)],v] w (dq (-q) w):=by
 obtain⟨B,rfl,⟨i,s,c1,o⟩,⟨j,t,d1,p⟩⟩:=(bF k).form h;obtain⟨x,u0,N⟩:=B;simp only at o p;subst o p;have b:Fr w (af #[J x,D i s c1,D j t d1]) q k:=h;clear h;obtain⟨z,l⟩:∃z,Y (-q=z):=⟨_,G rfl⟩;rw[l.out];show aj ae 270 #[af #[az (U ⟨g,0,none⟩)],af #[J x,D i s c1,D j t d1]] w _;go_enter func270,ntmps270;go_wp2_with fail;generalize r:ah (ah (ah w _) _) _=H at*;obtain⟨d,e,f,a⟩:=dm r;clear r;replace b:=b.up d;have m:=e.c1;have n:=f.c3;have u:=a.c3;have A:=a.free
 with_reducible refine(zA b (by omega)).mono ?_
 rintro P I ⟨F,rfl,c,u1⟩;revert d e f a b m n u;refine b9 u1 ?_;intro d e f a b m n u;replace A:=a.free;clear u1;rw[l.out]at c;obtain⟨K,L,rfl,c,y⟩:=c;obtain⟨C,R,cy,rfl⟩:=c.shape;obtain⟨E,S,M,rfl⟩:=y.shape;go_wp2_with fail;exact di rfl rfl rfl ⟨_,_,rfl,c,y⟩ a trivial trivial trivial d (by omega)
theorem AL {q:Rat}(h:Fr w v q k)(o:Fr w ep r j)(am:k<=10000000)(al:j<=10000000):aj ae 267 #[af #[az (U ⟨g,0,none⟩)],v,ep] w (dq (q+r) w):=by
 obtain⟨R,rfl,⟨p,C,c1,e⟩,⟨t,F,d1,f⟩⟩:=(bF k).form h;obtain⟨K,u0,P⟩:=R;simp only at e f;subst e f;have b:Fr w (af #[J K,D p C c1,D t F d1]) q k:=h;clear h;obtain⟨S,rfl,⟨s,E,c2,e⟩,⟨u,H,d2,f⟩⟩:=(bF j).form o;obtain⟨L,u0,P⟩:=S;simp only at e f;subst e f;have c:Fr w (af #[J L,D s E c2,D u H d2]) r j:=o;clear o;obtain⟨N,x⟩:∃N,Y (q+r=N):=⟨_,G rfl⟩;rw[x.out];show aj ae 267 #[af #[az (U ⟨g,0,none⟩)],af #[J K,D p C c1,D t F d1],af #[J L,D s E c2,D u H d2]] w _;go_enter func267,ntmps267;go_wp2_with fail;generalize B:ah (ah (ah (ah w _) _) _) _=Z at*;obtain⟨d,l,m,n,a⟩:=dn B;clear B;replace b:=b.up d;replace c:=c.up d;have y:=l.c1;have z:=m.c3;have A:=n.c3;have I:=a.c3;have Q:=a.free
 with_reducible refine(gc b c (by omega) (by omega)).mono ?_
 rintro ak aa ⟨X,rfl,i,u1⟩;revert d l m n a b c y z A I;refine bC u1 ?_;intro d l m n a b c y z A I;replace Q:=a.free;clear u1;rw[x.out]at i;obtain⟨ab,ag,rfl,i,M⟩:=i;obtain⟨T,an,cy,rfl⟩:=i.shape;obtain⟨V,ao,ai,rfl⟩:=M.shape;go_wp2_with fail;exact di rfl rfl rfl ⟨_,_,rfl,i,M⟩ a trivial trivial trivial d (by omega)
theorem AM {q:Rat}(h:Fr w v q k)(o:Fr w ep r j)(am:k<=10000000)(al:j<=10000000):aj ae 274 #[af #[az (U ⟨g,0,none⟩)],v,ep] w (dq (q-r) w):=by
 obtain⟨R,rfl,⟨p,C,c1,e⟩,⟨t,F,d1,f⟩⟩:=(bF k).form h;obtain⟨K,u0,P⟩:=R;simp only at e f;subst e f;have b:Fr w (af #[J K,D p C c1,D t F d1]) q k:=h;clear h;obtain⟨S,rfl,⟨s,E,c2,e⟩,⟨u,H,d2,f⟩⟩:=(bF j).form o;obtain⟨L,u0,P⟩:=S;simp only at e f;subst e f;have c:Fr w (af #[J L,D s E c2,D u H d2]) r j:=o;clear o;obtain⟨N,x⟩:∃N,Y (q-r=N):=⟨_,G rfl⟩;rw[x.out];show aj ae 274 #[af #[az (U ⟨g,0,none⟩)],af #[J K,D p C c1,D t F d1],af #[J L,D s E c2,D u H d2]] w _;go_enter func274,ntmps274;go_wp2_with fail;generalize B:ah (ah (ah (ah w _) _) _) _=Z at*;obtain⟨d,l,m,n,a⟩:=dn B;clear B;replace b:=b.up d;replace c:=c.up d;have y:=l.c1;have z:=m.c3;have A:=n.c3;have I:=a.c3;have Q:=a.free
 with_reducible refine(sa b c (by omega) (by omega)).mono ?_
 rintro ak aa ⟨X,rfl,i,u1⟩;revert d l m n a b c y z A I;refine bC u1 ?_;intro d l m n a b c y z A I;replace Q:=a.free;clear u1;rw[x.out]at i;obtain⟨ab,ag,rfl,i,M⟩:=i;obtain⟨T,an,cy,rfl⟩:=i.shape;obtain⟨V,ao,ai,rfl⟩:=M.shape;go_wp2_with fail;exact di rfl rfl rfl ⟨_,_,rfl,i,M⟩ a trivial trivial trivial d (by omega)
theorem AN {q:Rat}(h:Fr w v q k)(o:Fr w ep r j)(am:k<=10000000)(al:j<=10000000):aj ae 269 #[af #[az (U ⟨g,0,none⟩)],v,ep] w (dq (q*r) w):=by
 obtain⟨R,rfl,⟨p,C,c1,e⟩,⟨t,F,d1,f⟩⟩:=(bF k).form h;obtain⟨K,u0,P⟩:=R;simp only at e f;subst e f;have b:Fr w (af #[J K,D p C c1,D t F d1]) q k:=h;clear h;obtain⟨S,rfl,⟨s,E,c2,e⟩,⟨u,H,d2,f⟩⟩:=(bF j).form o;obtain⟨L,u0,P⟩:=S;simp only at e f;subst e f;have c:Fr w (af #[J L,D s E c2,D u H d2]) r j:=o;clear o;obtain⟨N,x⟩:∃N,Y (q*r=N):=⟨_,G rfl⟩;rw[x.out];show aj ae 269 #[af #[az (U ⟨g,0,none⟩)],af #[J K,D p C c1,D t F d1],af #[J L,D s E c2,D u H d2]] w _;go_enter func269,ntmps269;go_wp2_with fail;generalize B:ah (ah (ah (ah w _) _) _) _=Z at*;obtain⟨d,l,m,n,a⟩:=dn B;clear B;replace b:=b.up d;replace c:=c.up d;have y:=l.c1;have z:=m.c3;have A:=n.c3;have I:=a.c3;have Q:=a.free
 with_reducible refine(ib b c (by omega) (by omega)).mono ?_
 rintro ak aa ⟨X,rfl,i,u1⟩;revert d l m n a b c y z A I;refine bC u1 ?_;intro d l m n a b c y z A I;replace Q:=a.free;clear u1;rw[x.out]at i;obtain⟨ab,ag,rfl,i,M⟩:=i;obtain⟨T,an,cy,rfl⟩:=i.shape;obtain⟨V,ao,ai,rfl⟩:=M.shape;go_wp2_with fail;exact di rfl rfl rfl ⟨_,_,rfl,i,M⟩ a trivial trivial trivial d (by omega)
theorem AO {q:Rat}(h:Fr w v q k)(o:Fr w ep r j)(am:k<=10000000)(al:j<=10000000):aj ae 273 #[af #[az (U ⟨g,0,none⟩)],v,ep] w (eK (q/r) (!decide (r=0)) w):=by
 obtain⟨R,rfl,⟨p,C,c1,e⟩,⟨t,F,d1,f⟩⟩:=(bF k).form h;obtain⟨K,u0,P⟩:=R;simp only at e f;subst e f;have b:Fr w (af #[J K,D p C c1,D t F d1]) q k:=h;clear h;obtain⟨S,rfl,⟨s,E,c2,e⟩,⟨u,H,d2,f⟩⟩:=(bF j).form o;obtain⟨L,u0,P⟩:=S;simp only at e f;subst e f;have c:Fr w (af #[J L,D s E c2,D u H d2]) r j:=o;clear o;obtain⟨N,x⟩:∃N,Y (q/r=N):=⟨_,G rfl⟩;rw[x.out];show aj ae 273 #[af #[az (U ⟨g,0,none⟩)],af #[J K,D p C c1,D t F d1],af #[J L,D s E c2,D u H d2]] w _;go_enter func273,ntmps273;go_wp2_with fail;generalize B:ah (ah (ah (ah w _) _) _) _=Z at*;obtain⟨d,l,m,n,a⟩:=dn B;clear B;replace b:=b.up d;replace c:=c.up d;have y:=l.c1;have z:=m.c3;have A:=n.c3;have I:=a.c3;have Q:=a.free
 with_reducible refine(oF b c (by omega) (by omega)).mono ?_
 rintro ak aa ⟨X,rfl,i,u1⟩;revert d l m n a b c y z A I;refine bC u1 ?_;intro d l m n a b c y z A I;replace Q:=a.free;clear u1;rw[x.out]at i;obtain⟨ab,ag,rfl,i,M⟩:=i;obtain⟨T,an,cy,rfl⟩:=i.shape;obtain⟨V,ao,ai,rfl⟩:=M.shape;go_wp2_with fail;exact g8 rfl rfl rfl rfl ⟨_,_,rfl,i,M⟩ a trivial trivial trivial d (by omega)
theorem AP {q:Rat}{e:Int}(h:Fr w v q k)(Z:k<=10000000)(F: -9223372036854775808<=e/\e<=9223372036854775807):aj ae 272 #[af #[az (U ⟨g,0,none⟩)],v,H I e] w (eK (E.gI q e) (E.fO q e) w):=by
 obtain⟨L,rfl,⟨j,u,c1,r⟩,⟨l,x,d1,s⟩⟩:=(bF k).form h;obtain⟨z,u0,X⟩:=L;simp only at r s;subst r s;have b:Fr w (af #[J z,D j u c1,D l x d1]) q k:=h;clear h;obtain⟨C,n⟩:∃C,Y (E.gI q e=C):=⟨_,G rfl⟩;obtain⟨A,m⟩:∃A,Y (E.fO q e=A):=⟨_,G rfl⟩;rw[n.out,m.out];show aj ae 272 #[af #[az (U ⟨g,0,none⟩)],af #[J z,D j u c1,D l x d1],H I e] w _;go_enter func272,ntmps272;go_wp2_with fail;generalize t:ah (ah (ah w _) _) _=Q at*;obtain⟨d,f,i,a⟩:=dm t;clear t;replace b:=b.up d;have o:=f.c1;have p:=i.c3;have y:=a.c3;have K:=a.free
 with_reducible refine(zC b (by omega) F).mono ?_
 rintro e R ⟨P,rfl,c,u1⟩;revert d f i a b o p y;refine b9 u1 ?_;intro d f i a b o p y;replace K:=a.free;clear u1;rw[n.out]at c;rw[m.out];obtain⟨S,T,rfl,c,B⟩:=c;obtain⟨M,aa,cy,rfl⟩:=c.shape;obtain⟨N,ab,V,rfl⟩:=B.shape;go_wp2_with fail;exact g8 rfl rfl rfl rfl ⟨_,_,rfl,c,B⟩ a trivial trivial trivial d (by omega)
theorem Qw.sz {q:Rat}(h:Qw w v q)(a:E.Lq q k):Sz k w v (Z.bits q):=by
 obtain⟨u,d,rfl,h1,h2⟩:=h;exact⟨_,u,d,_,_,rfl,h1,h2,by rw[E.bl,E.bl];rfl,a.1,a.2⟩
theorem AQ {a c:Int}(hb:Bx 154 w g [H I a,H I b,H I c])(f:Sz k w v n)(z:k<=1000000)(ha:0<=a/\a<=1000000000):
 aj ae 268 #[af #[az (U ⟨g,0,none⟩)],v] w (s7 g (decide ((n:Int)<=c)) (a+1) (Ga.mx b n) c w):=by
 obtain⟨s,j⟩:∃s,Y (decide ((n:Int)<=c)=s):=⟨_,G rfl⟩;obtain⟨A,rfl,⟨i,p,c1,l⟩,⟨ai,q,c2,m⟩⟩:=(hE k).form f;obtain⟨r,M,K⟩:=A;simp only at l m;subst l m;have d:Sz k w (af #[J r,D i p c1,D ai q c2]) n:=f;clear f;rw[j.out];show aj ae 268 #[af #[az (U ⟨g,0,none⟩)],af #[J r,D i p c1,D ai q c2]] w _;go_enter func268,ntmps268;go_wp2_with fail;generalize o:ah (ah w _) _=B at*;obtain⟨e,u,x⟩:=br o;clear o;have E:=u.c1;have F:=x.c3;have hb:=hb.up e;have d:=(hE k).kw d e.kw
 ((with_reducible refine(o3 hb d z ha).mono ?_))
 rintro L C ⟨rfl,y,t⟩;rw[j.out];go_wp2;go_ret;exact⟨rfl,y,(Gb.up e).trans t⟩
def Zq (w:O)(v:W)(r:Rat):Prop:=cX 2 w v 0/\(r=1->Qk 2 w v 0)
theorem pg:Kp Zq where
 kw:=λa b=>⟨(bF 2).kw a.1 b,λc=>(aR 2).kw (a.2 c) b⟩
 form:=λa=>(bF 2).form a.1
def zl (n j:Nat):List Rat:=(List.range n).map λa=>if a<j then 1 else 0
theorem AR (n j:Nat):(zl n j).length=n:=by simp[zl]
theorem AU (n:Nat):bA n 0=zl n 0:=by
 apply List.ext_getElem (by simp[zl]);intro c a b;simp[zl]
theorem AV (h:j<n):(zl n j).set j 1=zl n (j+1):=by
 apply List.ext_getElem (by simp[zl]);intro c d e;simp only[zl,List.getElem_set,List.getElem_map,List.getElem_range]
 by_cases a:j=c
 .subst a;rw[if_pos rfl,if_pos (Nat.lt_succ_self j)]
 .rw[if_neg a]
  by_cases b:c<j
  .rw[if_pos b,if_pos (by omega)]
  .rw[if_neg b,if_neg (by omega)]
theorem AW (h:aA Zq T base w v (zl n n)):aA (Qk 2) T base w v (bA n 0):=by
 obtain⟨g,ha,e⟩:=h;refine⟨g,⟨by rw[ha.1];simp[zl],λc f q d a=> ?_⟩,e⟩
 have b:c<n:=by
  have:=(List.getElem?_eq_some_iff.1 a).1
  simpa using this
 rw[List.getElem?_replicate,if_pos b]at a;cases a;exact(ha.2 c f 1 d (by simp[zl,b])).2 rfl
theorem mU (ag:n<=300)(w:O):aj ae 49 #[H I n] w (dT 2 (bA n 0) w):=by
 have i:Y ((n:Int)=if 0>(n:Int)then 0 else(n:Int)):=G (by rw[if_neg (by omega)]);have g:Y ((n:Int)=if 300<(n:Int)then 300 else(n:Int)):=G (by rw[if_neg (by omega)]);go_enter func49,ntmps49
 go_wp2_with(first
  |(with_reducible show bG _ _ _ _ _ _;refine h9 (o:=⟨U 6,_,_,_,_,_⟩) rfl _ _ _ _ rfl rfl rfl i.out ?_)
  |(with_reducible show bG _ _ _ _ _ _;refine ov (o:=⟨U 7,_,_,_,_,_⟩) rfl _ _ _ _ rfl rfl rfl g.out ?_)
  |(at_make;go_loud (refine Aw (w0:=w) (P:=Zq) (λw=>⟨Ax (by omega) w,λA=>by simp at A⟩) rfl _ _ rfl n rfl rfl rfl ?_ (V.refl w) ?_)))
 .omega
 intro w1 c u0;rw[AU n]at c;have q:=G c;clear c i g;go_wp2_with fail
 go_loopw[4,11] (λ_ f wr=> ∃a:Nat,f=H I a/\a<=n/\aA Zq 53 w.heap.size wr (D (U ⟨w.heap.size,0,none⟩) n n) (zl n a)/\V w wr) (λ_ f _=>n-(aI f).toNat)
 case atStart=>exact⟨0,rfl,bn _,q.out,u0⟩
 case round=>
  obtain⟨a,rfl,af,b,e⟩:=hrel
  by_cases l:a<n
  .have s:Y _:=G (AV l);have j:Y (a<(zl n a).length):=G (by rw[AR];exact l);have k1:(a:Int)<(n:Int):=by omega
   have ah:(0:Int)<=(a:Int):=by omega
   have ai:((a:Int)).toNat=a:=by omega
   go_wp2_with fail;refine(g9 _).mono ?_;rintro R y ⟨x,rfl,o,u2⟩;have d:=aA.up pg b u2;have k:=e.trans u2;have p:Zq y x 1:=⟨o.fr (dR (n:=0) (by omega)),λ_=>⟨o,dR (n:=0) (by omega)⟩⟩;obtain⟨K,r⟩:∃P,Y ((0:Rat)=P):=⟨_,G rfl⟩;rw[r.out]at o;obtain⟨L,M,rfl,o,B⟩:=o;obtain⟨C,no,N,rfl⟩:=o.shape;obtain⟨E,am,Q,rfl⟩:=B.shape;obtain⟨_,an,F,ak,X,J,al,Z,z,ab,aa,c1,c2,c3,_,fr⟩:=aA.at_ pg d j.out;cases z;have S:=fr (a*3);have T:=fr (a*3+1);have W:=fr (a*3+2);clear fr;obtain⟨q1,_,_,m⟩:=aA.store pg d k j.out p;rw[s.out]at q1;have u:=G q1;have v:=G m;clear q1 m b e d k;go_wp2_with fail;exact⟨⟨a+1,by go_num,by omega,u.out,v.out⟩,by simp[aI];omega⟩
  .obtain rfl:a=n:=by omega
   have k1:¬(a:Int)<(a:Int):=by omega
   have t:=G (AW b);clear b;go_wp2;go_ret;exact⟨_,rfl,t.out,e⟩
end Go.Proofs.YtjopfpegcckllaaGreatDoor
namespace E
def im (o:Option Rat)(x:Rat):Option Rat:=match o with
 |none=>U x
 |some f=>U (if 0<cI x f then x else f)
def dC (l:List Rat):Rat:=(l.foldl im none).getD 0
theorem ph:∀(l:List Rat) (b:Rat),∃c,l.foldl im (U b)=U c
 |[],b=>⟨b,rfl⟩
 |x::l,b=>ph l _
theorem tq (l:List Rat)(x:Rat):dC (l++[x])=if l.length=0\/0<cI x (dC l)then x else dC l:=by
 unfold dC;rw[List.foldl_append];cases l with
 |nil=>simp[im]
 |cons f l=>
  obtain⟨b,d⟩:=ph l f;have c:(f::l).foldl im none=U b:=d;rw[c];simp only[List.foldl_cons,List.foldl_nil,im,Option.getD_some,List.length_cons]
  by_cases a:0<cI x b
  .rw[if_pos a,if_pos (.inr a)]
  .rw[if_neg a,if_neg (by omega)]
theorem AX:∀l:List Rat,l=[]\/dC l∈l:=by
 have g:∀(l:List Rat) (c a:Rat),l.foldl im (U c)=U a->a=c\/a∈l:=by
  intro l
  induction l with
  |nil=>intro c a h;simp at h;exact .inl h.symm
  |cons f l ih=>
   intro c a h;simp only[List.foldl_cons,im]at h;rcases ih _ _ h with b|b
   .split at b
    .exact .inr (by simp[b])
    .exact .inl b
   .exact .inr (by simp[b])
 intro l;cases l with
 |nil=>exact .inl rfl
 |cons f l=>
  right;obtain⟨a,d⟩:=ph l f
  have e:dC (f::l)=a:=by
   unfold dC;have:(f::l).foldl im none=U a:=d;rw[this];rfl
  rw[e];rcases g l f a d with h|h
  .simp[h]
  .simp[h]
theorem AZ {l:List Rat}(h:∀q∈l,Lq q k)(h1:1<=k):Lq (dC l) k:=by
 rcases AX l with rfl|a
 .exact Lq.mono ⟨by show(words 0).length<=1;rw[en];simp,hs⟩ h1
 .exact h _ a
end E
namespace Go.Proofs.YtjopfpegcckllaaGreatDoor
open Go.RowKit
theorem Sq.lq {k:Nat}{w:O}{v:W}{qs:List Rat}(h:Sq (cX k) w v qs):∀q∈qs,E.Lq q k:=by
 intro q e;obtain⟨j,a,rfl⟩:=List.getElem_of_mem e;obtain⟨f,c,rfl⟩:=h.form;obtain⟨b,o,s,B,l,g,ai,m,i,_,_,_,_,_,d⟩:=h.at_ (bF k) a;exact Fr.lq d
theorem Ba (h:Sq (cX k) w v qs)(bh:qs.length<=100000000)(bg:k<=20000000)(h1:1<=k):aj ae 101 #[v] w (dq (E.dC qs) w):=by
 have aA:=G h.lq;have az:Y (∀c,E.Lq (E.dC (qs.take c)) k):=G (λc=>E.AZ (λq aN=>aA.out q (List.mem_of_mem_take aN)) h1);obtain⟨aV,a8,rfl⟩:=h.form;have ax:=G h;clear h;go_enter func101,ntmps101;go_wp2_with fail;generalize j:ah w _=a2 at*;obtain⟨d,a⟩:=aC j;clear j;have g:=a.c3;have n:=a.free;go_wp2_with fail
 with_reducible refine(g9 _).mono ?_
 rintro S L ⟨aY,rfl,o,u1⟩;revert d a g;refine bo u1 ?_;intro d a g;replace n:=a.free;clear u1;obtain⟨aE,ak⟩:∃aD,Y ((0:Rat)=aD):=⟨_,G rfl⟩;rw[ak.out]at o;obtain⟨a5,a6,rfl,o,N⟩:=o;obtain⟨aW,no,a9,rfl⟩:=o.shape;obtain⟨aX,bk,ba,rfl⟩:=N.shape;have C:=a.d3;have F:=a.fa;go_wp2_with fail;clear C F;generalize j:ah L _=a3 at*;obtain⟨t,b⟩:=aC j;clear j;have bm:=a.lt;have bp:¬(w.heap.size=L.heap.size):=by omega
 have bl:¬(L.heap.size=w.heap.size):=by omega
 revert d a g o N;refine b8 t ?_;intro d a g o N;replace n:=a.free;clear t;have r:=b.c3;have u:=b.free
 go_loopw[9] (λZ wr=> ∃(c:Nat) (X:Bool) (P Q:Option am) (T c1 U c2:Nat),Z=H I c/\c<=qs.length/\Bx 53 wr L.heap.size [J X,D P T c1,D Q U c2]/\Qw wr (af #[J X,D P T c1,D Q U c2]) (E.dC (qs.take c))/\Bx 53 wr w.heap.size [J false,D none 0 0,D none 0 0]/\V w wr) (λZ _=>qs.length-(aI Z).toNat)
 case atStart=>exact⟨0,_,_,_,_,_,_,_,rfl,bn _,b,by rw[List.take_zero,show E.dC []=aE from ak.out];exact⟨_,_,rfl,o,N⟩,a,d⟩
 case round=>
  obtain⟨c,X,P,Q,T,c1,U,c2,rfl,bd,b,e,a,d⟩:=hrel;have g:=a.c3;have n:=a.free;have r:=b.c3;have u:=b.free
  by_cases ar:c<qs.length
  .obtain⟨a7,o,aT,B,aO,aK,ai,aP,aL,rfl,hb,ao,aq,g3,au⟩:=(ax.out.up (bF k) d).at_ (bF k) ar
   have x:Y (E.dC (qs.take (c+1))=if c=0\/0<E.cI qs[c] (E.dC (qs.take c))then qs[c]else E.dC (qs.take c)):=G (by
    rw[List.take_succ_eq_append_getElem ar,E.tq,List.length_take,Nat.min_eq_left (by omega)])
   have aB:=az.out c;generalize qs[c]=q at*;generalize E.dC (qs.take c)=p at*;have i:Fr wr (af #[J aT,D B aO aK,D ai aP aL]) q k:=au;clear au;have k1:(c:Int)<(qs.length:Int):=by omega
   have bi:(0:Int)<=(c:Int):=by omega
   have bj:((c:Int)).toNat=c:=by omega
   by_cases z:c=0
   .have aM:((c:Int)==0)=true:=by simp[z]
    have A:Y (E.dC (qs.take (c+1))=q):=G (by rw[x.out,if_pos (.inl z)]);clear z x;have C:=a.d3;have F:=a.fa;have aa:=b.d3;have ab:=b.fa;go_wp2_with fail;clear C F aa ab;generalize j:ah wr _=aF at*;obtain⟨t,f⟩:=aC j;clear j;have aS:=a.lt;have aU:=b.lt;revert b a d g e i;refine bO t ?_;intro b a d g e i
    replace n:=a.free;replace r:=b.c3;replace u:=b.free;clear t;have y:=f.c3;clear ao aq g3
    with_reducible refine(dx i (by omega)).mono ?_
    rintro S al ⟨aZ,rfl,m,u52⟩;revert f b a d g e i;refine bS u52 ?_;intro f b a d g e i
    replace n:=a.free;replace r:=b.c3;replace u:=b.free;replace y:=f.c3;clear u52;obtain⟨aG,aH,rfl,m,s⟩:=m;obtain⟨av,aQ,cy,rfl⟩:=m.shape;obtain⟨aw,aR,aJ,rfl⟩:=s.shape;go_wp2_with fail;generalize j:ag (ag (ag al _ _) _ _) _ _=an at*;have l:=dh b j;clear j;revert e i m s;refine bf l.kw ?_;intro e i m s
    replace a:=a.bs l;replace f:=f.bs l;replace b:=l.new;replace d:=d.bs l;clear l;replace g:=a.c3;replace n:=a.free;replace r:=b.c3;replace y:=f.c3
    go_roundw
    case rel=>exact⟨c+1,_,_,_,_,_,_,_,by go_num,by omega,b,by rw[A.out];exact⟨_,_,rfl,m,s⟩,a,d⟩
    case measure=>simp[aI];omega
   .have aM:((c:Int)==0)=false:=by simp[z]
    have ay:=G z;clear z;have C:=a.d3;have F:=a.fa;have aa:=b.d3;have ab:=b.fa;go_wp2_with fail;clear C F aa ab;generalize j:ah wr _=aF at*;obtain⟨t,f⟩:=aC j;clear j;have aS:=a.lt;have aU:=b.lt;revert b a d g e i;refine bO t ?_;intro b a d g e i
    replace n:=a.free;replace r:=b.c3;replace u:=b.free;clear t;have y:=f.c3;clear ao aq g3
    with_reducible refine(f9 i (e.fr aB) (by omega) (by omega)).mono ?_
    rintro S al ⟨rfl,u52⟩;revert f b a d g e i;refine bS u52 ?_;intro f b a d g e i
    replace n:=a.free;replace r:=b.c3;replace u:=b.free;replace y:=f.c3;clear u52;obtain⟨K,R⟩:∃K,Y (E.cI q p=K):=⟨_,G rfl⟩;rw[R.out]
    by_cases M:0<K
    .have A:Y (E.dC (qs.take (c+1))=q):=G (by rw[x.out,if_pos (.inr (by rw[R.out];exact M))]);clear x;go_wp2_with fail
     with_reducible refine(dx i (by omega)).mono ?_
     rintro S an ⟨a1,rfl,m,u53⟩;revert f b a d g e i;refine bS u53 ?_;intro f b a d g e i
     replace n:=a.free;replace r:=b.c3;replace u:=b.free;replace y:=f.c3;clear u53;obtain⟨aG,aH,rfl,m,s⟩:=m;obtain⟨av,aQ,cy,rfl⟩:=m.shape;obtain⟨aw,aR,aJ,rfl⟩:=s.shape;go_wp2_with fail;generalize j:ag (ag (ag an _ _) _ _) _ _=a4 at*;have l:=dh b j;clear j;revert e i m s;refine bf l.kw ?_;intro e i m s
     replace a:=a.bs l;replace f:=f.bs l;replace b:=l.new;replace d:=d.bs l;clear l;replace g:=a.c3;replace n:=a.free;replace r:=b.c3;replace y:=f.c3
     go_roundw
     case rel=>exact⟨c+1,_,_,_,_,_,_,_,by go_num,by omega,b,by rw[A.out];exact⟨_,_,rfl,m,s⟩,a,d⟩
     case measure=>simp[aI];omega
    .have A:Y (E.dC (qs.take (c+1))=p):=G (by rw[x.out,if_neg (by rintro(h|h);exact ay.out h;rw[R.out]at h;exact M h)]);have bb:decide (0<K)=false:=decide_eq_false M;clear x M;go_wp2_with fail
     go_roundw
     case rel=>exact⟨c+1,_,_,_,_,_,_,_,by go_num,by omega,b,by rw[A.out];exact e,a,d⟩
     case measure=>simp[aI];omega
  .obtain rfl:c=qs.length:=by omega
   rw[co]at e;have g:=a.c3;have n:=a.free;have r:=b.c3;have u:=b.free;go_wp2_with fail;exact di rfl rfl rfl e a trivial trivial trivial d (by omega)
theorem Bb (a b:Rat):E.dC [a,b]=if a<b then b else a:=by
 have c:=E.tq [a] b;have d:E.dC [a]=a:=rfl;rw[d]at c;simp only[List.length_cons,List.length_nil,E.iP]at c;rw[show[a]++[b]=[a,b]from rfl]at c;rw[c];simp
theorem Bc (h:j<qs.length):Z.norm (qs.take (j+1))=E.dC [Z.norm (qs.take j),E.dZ qs[j]]:=by
 rw[Bb,List.take_succ_eq_append_getElem h];unfold Z.norm;rw[List.foldl_append];rfl
theorem pi {q:Rat}(h:E.Lq q k):E.Lq (E.dZ q) k:=by
 unfold E.dZ
 split
 .exact h.neg
 .exact h
theorem ts {k:Nat}(h2:2<=k):∀{l:List Rat} {b:Rat},(∀q∈l,E.Lq q k)->E.Lq b k->E.Lq (l.foldl (λb x=>if b<E.dZ x then E.dZ x else b) b) k
 |[],b,_,hb=>hb
 |x::l,b,f,hb=>by
  refine ts h2 (l:=l) (λq a=>f q (by simp[a])) ?_;show E.Lq (if b<E.dZ x then E.dZ x else b) k
  split
  .exact pi (f x (by simp))
  .exact hb
theorem Bd (h:aU ka w v qs)(bV:qs.length<=1000)(bU:ka<=1000000)(h2:2<=ka):aj ae 59 #[v] w (dq (Z.norm qs) w):=by
 have aS:=G h.lq;have aB:Y (∀e,E.Lq (Z.norm (qs.take e)) ka):=G (λe=>ts h2 (λq bd=>aS.out q (List.mem_of_mem_take bd)) ((dR (n:=0) (by omega)).mono h2));obtain⟨aP,a5,rfl⟩:=h.form;have aQ:=G h;clear h;show aj ae 59 #[D aP qs.length a5] w _;go_enter func59,ntmps59;go_wp2_with fail;generalize k:ah w _=bz at*;obtain⟨c,a⟩:=aC k;clear k;have l:=a.c3;have C:=a.free;go_wp2_with fail
 with_reducible refine(g9 _).mono ?_
 rintro aF P ⟨bv,rfl,o,u1⟩;revert c a l;refine bo u1 ?_;intro c a l;replace C:=a.free;clear u1;obtain⟨aY,ay⟩:∃aT,Y ((0:Rat)=aT):=⟨_,G rfl⟩;rw[ay.out]at o;obtain⟨bC,bG,rfl,o,Q⟩:=o;obtain⟨bk,no,bL,rfl⟩:=o.shape;obtain⟨bl,bY,bM,rfl⟩:=Q.shape;have ao:=a.d3;have aq:=a.fa;go_wp2_with fail;clear ao aq;generalize k:ah P _=bA at*;obtain⟨s,b⟩:=aC k;clear k;have b7:=a.lt;have b9:¬(w.heap.size=P.heap.size):=by omega
 have b4:¬(P.heap.size=w.heap.size):=by omega
 revert c a l o Q;refine b8 s ?_;intro c a l o Q;replace C:=a.free;clear s;have L:=b.c3;have M:=b.free
 go_loopw[9] (λau wr=> ∃(e:Nat) (ar:Bool) (R T:Option am) (al X an ab:Nat),au=H I (e:Int)/\e<=qs.length/\Bx 53 wr P.heap.size [J ar,D R al X,D T an ab]/\Qw wr (af #[J ar,D R al X,D T an ab]) (Z.norm (qs.take e))/\Bx 53 wr w.heap.size [J false,D none 0 0,D none 0 0]/\V w wr) (λau _=>qs.length-(aI au).toNat)
 case atStart=>exact⟨0,_,_,_,_,_,_,_,rfl,bn _,b,by rw[show Z.norm (qs.take 0)=aY from ay.out];exact⟨_,_,rfl,o,Q⟩,a,c⟩
 case round=>
  obtain⟨e,ar,R,T,al,X,an,ab,rfl,bT,b,g,a,c⟩:=hrel;have l:=a.c3;have C:=a.free;have L:=b.c3;have M:=b.free
  by_cases aK:e<qs.length
  .skip;obtain⟨bK,o,aN,B,aL,aG,ai,aM,aH,a6,hb,ba,bb,g3,f⟩:=(aQ.out.up c).at_ (bF ka) aK
   subst a6;have aw:Y (Z.norm (qs.take (e+1))=E.dC [Z.norm (qs.take e),E.dZ qs[e]]):=G (Bc aK);have aR:=aB.out e;have bu:=aB.out (e+1);generalize qs[e]=q at*;generalize Z.norm (qs.take e)=p at*;have f:Fr wr (af #[J aN,D B aL aG,D ai aM aH]) q ka:=f;have aD:=pi f.lq;obtain⟨U,az⟩:∃U,Y (E.dZ q=U):=⟨_,G rfl⟩;rw[az.out]at aD aw;obtain⟨bQ,aA⟩:∃bQ,Y (E.dC [p,U]=bQ):=⟨_,G rfl⟩;have k1:(e:Int)<(qs.length:Int):=by omega
   have bW:(0:Int)<=(e:Int):=by omega
   have bX:((e:Int)).toNat=e:=by omega
   have ao:=a.d3;have aq:=a.fa;have bf:=b.d3;have bg:=b.fa;go_wp2_with fail;clear ao aq bf bg;generalize k:ah wr _=aE at*;obtain⟨s,d⟩:=aC k;clear k;have b5:=a.lt;have cd:=b.lt;revert b a c l g f;refine bO s ?_;intro b a c l g f
   replace C:=a.free;replace L:=b.c3;replace M:=b.free;clear s;have N:=d.c3;clear ba bb g3;revert d b a c l g f;refine bS (V.refl aE).drew ?_;intro d b a c l g f
   replace C:=a.free;replace L:=b.c3;replace M:=b.free;replace N:=d.c3;refine aZ ?_;refine a3 (S:=λaO=>V w aO/\Cz aO (wr.heap.size) 0 [J aN,D B aL aG,D ai aM aH]) (by kernel_rfl) (by exact⟨c,d.cz⟩) (λt=> ?_);generalize aE.drew=K at*;refine aa 1 ?_
   repeat' first
    |refine ak [0,2] ?_
    |refine ak [0] ?_
    |refine ak [2] ?_
    |refine ak [3] ?_
    |refine ak [4] ?_
    |refine ak [5] ?_
    |refine ak [5] ?_
    |refine ak [0] ?_
    |refine av (i:=0) rfl (λA aV=> ?_) ?_
    |refine av (i:=2) rfl (λA bh=> ?_) ?_
    |refine av (i:=3) rfl (λA bi=> ?_) ?_
    |refine av (i:=4) rfl (λA bq=> ?_) ?_
    |refine av (i:=5) rfl (λA bB=> ?_) ?_
    |exact bm
    |(have j:=aV;clear aV
      (try clear t)
      go_simp;refine ax j (by exact⟨c,d.cz⟩) (λt=> ?_);clear j A)
    |(have j:=bh;clear bh
      (try clear t)
      go_simp;go_at_call 102
      with_reducible refine(zB f (by omega)).mono ?_
      rintro aF K ⟨bw,rfl,u,m⟩;revert d b a c g f;refine bO m ?_;intro d b a c g f
      try(replace x:=x.up m)
      try(replace y:=y.up m)
      try(replace z:=z.up m)
      try(replace F:=F.up m)
      replace C:=a.free;replace l:=a.c3;replace M:=b.free;replace L:=b.c3;replace N:=d.c3;clear m;rw[az.out]at u;obtain⟨bD,bH,rfl,u,y⟩:=u;obtain⟨bp,bZ,cy,rfl⟩:=u.shape;obtain⟨br,b0,bN,rfl⟩:=y.shape
      try go_wp2_with fail
      refine ax j (by exact⟨c,d.cz⟩) (λt=> ?_);clear j A)
    |(have j:=bi;clear bi
      (try clear t)
      go_simp;have b6:=a.lt;have bj:=b.lt;have bJ:=d.lt;have ca:=c.size;generalize aJ:K.heap.size=bR at*;generalize k:ah K _=K at*;obtain⟨s,F⟩:=b3 k aJ;clear k aJ;revert d b a c g f;refine bO s ?_;intro d b a c g f
      try(replace u:=u.up s)
      try(replace x:=x.up s)
      try(replace y:=y.up s)
      try(replace z:=z.up s)
      replace C:=a.free;replace l:=a.c3;replace M:=b.free;replace L:=b.c3;replace N:=d.c3;clear s;refine ax j (by exact⟨c,d.cz⟩) (λt=> ?_);clear j A)
    |(have j:=bq;clear bq
      (try clear t)
      go_simp;go_at_call 101
      with_reducible refine(Ba (AC F (g.fr aR) ((il u y).fr aD)).sq (by simp) (by omega) (by omega)).mono ?_
      rintro aF K ⟨bx,rfl,x,m⟩;revert d b a c g f;refine bO m ?_;intro d b a c g f
      try(replace u:=u.up m)
      try(replace y:=y.up m)
      try(replace z:=z.up m)
      try(replace F:=F.up m)
      replace C:=a.free;replace l:=a.c3;replace M:=b.free;replace L:=b.c3;replace N:=d.c3;clear m;rw[aA.out]at x;obtain⟨bE,bI,rfl,x,z⟩:=x;obtain⟨bs,b1,cz,rfl⟩:=x.shape;obtain⟨bt,b2,bP,rfl⟩:=z.shape
      try go_wp2_with fail
      refine ax j (by exact⟨c,d.cz⟩) (λt=> ?_);clear j A)
    |(have j:=bB;clear bB
      (try clear t)
      obtain⟨a1,a2,a4⟩:=b.c3;have a7:=b.free 0;have a8:=b.free 1;have a9:=b.free 2;go_simp;clear a1 a2 a4 a7 a8 a9;generalize k:ag (ag (ag K _ _) _ _) _ _=K at*;have r:=dh b k;clear k;replace g:=g.kw r.kw;replace f:=f.kw r.kw
      try(replace u:=u.kw r.kw)
      try(replace x:=x.kw r.kw)
      try(replace y:=y.kw r.kw)
      try(replace z:=z.kw r.kw)
      replace a:=a.bs r;replace d:=d.bs r;replace F:=F.bs r (by first|omega|(have:=cc;omega)|(have:=bj;omega));replace b:=r.new;replace c:=c.bs r;clear r;replace C:=a.free;replace l:=a.c3;replace M:=b.free;replace L:=b.c3;replace N:=d.c3;refine ax j (by exact⟨c,d.cz⟩) (λt=> ?_);clear j A)
    |refine aW (by decide +kernel) (aX ?_) _
    |fail
   all_goals try clear t
   all_goals have cb:=F.c6
   all_goals
    go_wp2_with fail
    go_roundw
    case rel=>exact⟨e+1,_,_,_,_,_,_,_,by go_num,by omega,b,by rw[aw.out,aA.out];exact⟨_,_,rfl,x,z⟩,a,c⟩
    case measure=>simp[aI]<;>omega
  .skip;obtain rfl:e=qs.length:=by omega
   rw[co]at g;go_wp2_with fail;exact di rfl rfl rfl g a trivial trivial trivial c (by omega)
def tt (k:Nat)(qs:List Rat)(w:O)(e:aO)(b:O):Prop:= ∃a,e=aw (aY #[a,J true])/\aL k w b a qs/\V w b
theorem Be {a b:List Rat}(h:b.length=a.length):Pq.zt a (Pq.sc (-1) b) a.length=List.zipWith (λx y=>x-y) a b:=by
 apply List.ext_getElem
 .simp[Pq.zt,h]
 .intro c d f;have e:c<a.length:=by simpa[Pq.zt]using d
  have hb:c<b.length:=by omega
  simp[Pq.zt,Pq.sc,e,hb,bz]
  grind
theorem tu {a b:List Rat}(h:b.length=a.length):Pq.zt a b a.length=List.zipWith (λx y=>x+y) a b:=by
 apply List.ext_getElem
 .simp[Pq.zt,h]
 .intro c d f;have e:c<a.length:=by simpa[Pq.zt]using d
  have hb:c<b.length:=by omega
  simp[Pq.zt,e,hb,bz]
theorem Bf (h:∀q∈qs,E.Lq q k):∀q∈Pq.sc (-1) qs,E.Lq q k:=by
 intro q a;obtain⟨c,b,rfl⟩:=List.mem_map.1 a;rw[Rat.neg_mul,Rat.one_mul];exact(h c b).neg
theorem Bg (h:aU ka w v ps)(h2:aU kb w u qs)(af:ps.length<=10000)(d:qs.length=ps.length)(ha:2<=ka)(hb:2<=kb)(aa:ka<=1000000)(ab:kb<=1000000):
 aj ae 120 #[v,u] w (tt (ka+kb+1) (List.zipWith (λx y=>x-y) ps qs) w):=by
 have q:=G (Bf h2.lq);have s:=G (Be d);have e:Y ((Pq.sc (-1) qs).length=ps.length):=G (by rw[Pq.mw];exact d);have g:=G d;clear d;obtain⟨H,X,rfl⟩:=h.form;obtain⟨B,Z,rfl⟩:=h2.form;have a:V w w:=V.refl w;go_enter func120,ntmps120;go_wp2_with fail
 with_reducible refine(fd (n:= -1) (by omega) _).mono ?_
 rintro k D ⟨C,rfl,o,u1⟩;revert h h2 a;revert u1;refine bX ?_;intro h h2 a;have f:Y (Fr D C ((-1:Int):Rat) 2):=G (o.fr (dR (by omega)));obtain⟨L,j⟩:∃t,Y ((((-1:Int):Int):Rat)=t):=⟨_,G rfl⟩;rw[j.out]at o f;obtain⟨R,S,rfl,o,b⟩:=o;obtain⟨J,no,T,rfl⟩:=o.shape;obtain⟨K,ag,U,rfl⟩:=b.shape;go_wp2_with fail
 with_reducible refine(he f.out h2.sq (by have:=g.out;omega) (by omega) (by omega)).mono ?_
 rintro k E ⟨M,rfl,r,u2⟩;revert h h2 a o b;revert u2;refine dH ?_;intro h h2 a o b;rw[<-j.out,show(((-1:Int)):Rat)= -1 from rfl]at r;replace r:=r.re q.out;have c:=r.fs;clear r;generalize Pq.sc (-1) qs=ai at*;obtain⟨I,c3,rfl⟩:=c.form;rw[e.out]at c|-;have i:=e;go_wp2_with fail;generalize l:ah E _=P at*;obtain⟨F,p⟩:=aC l;clear l;revert h h2 a o b c;revert F;refine dX ?_;intro h h2 a o b c;have ak:=p.c2;have A:=a
 ((with_reducible refine(mR p h.sq c.sq i.out (by omega) (by omega) (by omega)).mono ?_))
 rintro k Q ⟨N,rfl,m,u9⟩;rw[s.out]at m;have z:=a.trans u9;clear e i g;go_wp2
 go_ret2
 exact⟨_,rfl,m.weaken A,z⟩
theorem tv (h:Sq (cX ka) w v qs)(aF:qs.length<=100000000)(aE:ka<=20000000):aj ae 200 #[v] w (dT ka qs w):=by
 obtain⟨al,az,rfl⟩:=h.form;have c:=V.refl w;obtain⟨d,l⟩:∃d,d=w:=⟨_,rfl⟩;subst l;have F:=G h;clear h;go_enter func200,ntmps200;go_wp2
 go_loopw[3,8] (λak s wr=> ∃a:Nat,s=H I a/\a<=qs.length/\aL ka d wr ak (qs.take a)/\V d wr) (λ_ s _=>qs.length-(aI s).toNat)
 case atStart=>exact⟨0,rfl,bn _,aA.nil _ _ _ _,V.refl d⟩
 case round=>
  obtain⟨a,rfl,aD,b,q⟩:=hrel
  by_cases y:a<qs.length
  .obtain⟨ay,o,ag,B,Z,S,ai,aa,T,rfl,hb,U,X,g3,z⟩:=(F.out.up (bF ka) q).at_ (bF ka) y
   have M:Y (qs.take (a+1)=qs.take a++[qs[a]]):=G (List.take_succ_eq_append_getElem y);have t:Y ((qs.take a).length=a):=G (by rw[List.length_take];omega);generalize qs[a]=f at*;have e:Fr wr (af #[J ag,D B Z S,D ai aa T]) f ka:=z;have P:=e.lq;have c:=V.refl wr;clear z;obtain⟨C,R,rfl⟩:=b.form;rw[t.out]at b|-;have k1:(a:Int)<(qs.length:Int):=by omega
   have aG:(0:Int)<=(a:Int):=by omega
   have aH:((a:Int)).toNat=a:=by omega
   have c:V wr wr:=V.refl wr;go_wp2_with fail;generalize l:ah wr _=au at*;obtain⟨ab,r⟩:=aC l;clear l;revert e b c;revert ab;refine bX ?_;intro e b c
   have x:=r.c3;clear U X g3
   with_reducible refine(dx e (by omega)).mono ?_
   rintro aB g ⟨aq,rfl,p,u2⟩;revert r e b c x;revert u2;refine dH ?_;intro r e b c x
   obtain⟨aw,ax,rfl,p,A⟩:=p;obtain⟨i,m,cy,rfl⟩:=p.shape;obtain⟨j,n,k,rfl⟩:=A.shape;have K:Y (aL ka d (g.alloc (ao #[J (E.aB f.num),D i m cy,D j n k] 53)) (D C a R) (qs.take a)):=G (b.up ((V.refl g).alloc _));have L:Y (Qk (ka) (g.alloc (ao #[J (E.aB f.num),D i m cy,D j n k] 53)) (af #[J (E.aB f.num),D i m cy,D j n k]) f):=G ⟨Qw.up ⟨_,_,rfl,p,A⟩ ((V.refl g).alloc _),P⟩;have N:=G ((q.trans c).alloc (ao #[J (E.aB f.num),D i m cy,D j n k] 53));go_wp2_with(at_builtin;refine fR (aR _) underlying44 d7 (w0:=d) rfl _ _ rfl rfl K.out N.out rfl (heap_alloc_new g _) L.out (by rw[t.out];omega) ?_;intro ar av u an am Q);rw[<-M.out]at u
   go_roundw
   case rel=>exact⟨a+1,by go_num,by omega,u,Q⟩
   case measure=>simp[aI];omega
  .obtain rfl:a=qs.length:=by omega
   rw[co]at b;go_wp2;go_ret;exact⟨_,rfl,b,q⟩
theorem tw (w:O):(ct 207).run ae w= .ok true w:=by kernel_rfl
theorem tx (w:O):(ci 207).run ae w= .ok 5 w:=by kernel_rfl
def Bh (t:Rat)(k1 k2:Nat)(qs rs:List Rat)(w:O)(e:aO)(a:O):Prop:=
 ∃f d b c,e=aw (af #[J (E.aB t.num),f,d,b,c])/\Qw a (af #[J (E.aB t.num),f,d]) t/\aF k1 a b qs/\aF k2 a c rs/\V w a
theorem Bi {A1 D1:Option am}{n1 c1 n2 c2:Nat}{vy vp:W}{t:Rat}{rs:List Rat}{k1 k2:Nat}(h:Fr w (af #[J s,D A1 n1 c1,D D1 n2 c2]) t k)(j:aU k1 w vy qs)(i:aU k2 w vp rs)(ao:k<=20000000)(aq:k1<=20000000)(ar:k2<=20000000)(av:qs.length<=1000)(aw:rs.length<=1000):
 aj ae 178 #[af #[J s,D A1 n1 c1,D D1 n2 c2,vy,vp]] w (Bh t k1 k2 qs rs w):=by
 obtain⟨C,E,rfl⟩:=j.form;obtain⟨B,F,rfl⟩:=i.form;show aj ae 178 #[af #[J s,D A1 n1 c1,D D1 n2 c2,D C qs.length E,D B rs.length F]] w _;go_enter func178,ntmps178;go_wp2_with fail;generalize y:ah (ah w _) _=H at*;obtain⟨b,l,a⟩:=br y;clear y;revert h j i;refine bo b ?_;intro h j i;have K:=l.c5;have L:=a.c5;have z:=a.free;obtain⟨c,d,e,f,g⟩:=K;have q:=L;revert b l a h j i c d e f g;refine bC (V.refl H).drew ?_;intro b l a h j i c d e f g;have q:=a.c5;have z:=a.free;refine aZ ?_;refine a3 (S:=λx=>V w x/\x.cell? ⟨w.heap.size,0,none⟩=U (J s)/\x.cell? ⟨w.heap.size,1,none⟩=U (D A1 n1 c1)/\x.cell? ⟨w.heap.size,2,none⟩=U (D D1 n2 c2)/\x.cell? ⟨w.heap.size,3,none⟩=U (D C qs.length E)/\x.cell? ⟨w.heap.size,4,none⟩=U (D B rs.length F)) (by kernel_rfl) ?_ (λu=> ?_)
 .with_reducible exact⟨b,c,d,e,f,g⟩
 refine aa 0 ?_;refine aa 1 ?_;refine aa 3 ?_;refine aa 4 ?_;refine aa 6 ?_;refine aa 7 ?_;refine bZ 2 (λv n=> ?_);go_simp
 (first
   |(go_at_call 28
     with_reducible refine(dx h (by omega)).mono ?_
     rintro G Y ⟨R,rfl,m,u1⟩;revert b l a h j i c d e f g q;refine au u1 ?_;intro b l a h j i c d e f g q
     try(replace m:=m.up u1)
     try(replace o:=o.up u1)
     try(replace p:=p.up u1)
     replace z:=a.free;clear u1))
 try go_wp2_with fail
 try clear u
 refine n.out _ _ ?_ (λu=> ?_)
 .with_reducible exact⟨b,c,d,e,f,g⟩
 clear n v
 try simp only[bc,bg]
 refine bZ 5 (λv n=> ?_);go_simp
 (first
   |(go_at_call 200
     with_reducible refine(tv j.sq (by omega) (by omega)).mono ?_
     rintro G Z ⟨T,rfl,o,u2⟩;revert b l a h j i c d e f g q;refine au u2 ?_;intro b l a h j i c d e f g q
     try(replace m:=m.up u2)
     try(replace o:=o.up u2)
     try(replace p:=p.up u2)
     replace z:=a.free;clear u2;obtain⟨M,c3,rfl⟩:=o.form))
 try go_wp2_with fail
 try clear u
 refine n.out _ _ ?_ (λu=> ?_)
 .with_reducible exact⟨b,c,d,e,f,g⟩
 clear n v
 try simp only[bc,bg]
 refine bZ 8 (λv n=> ?_);go_simp
 (first
   |(go_at_call 200
     with_reducible refine(tv i.sq (by omega) (by omega)).mono ?_
     rintro G I ⟨X,rfl,p,u3⟩;revert b l a h j i c d e f g q;refine au u3 ?_;intro b l a h j i c d e f g q
     try(replace m:=m.up u3)
     try(replace o:=o.up u3)
     try(replace p:=p.up u3)
     replace z:=a.free;clear u3;obtain⟨N,c4,rfl⟩:=p.form;obtain⟨ai,ak,rfl,m,A⟩:=m;obtain⟨P,ax,al,rfl⟩:=m.shape;obtain⟨Q,ay,an,rfl⟩:=A.shape))
 try go_wp2_with fail
 try clear u
 refine n.out _ _ ?_ (λu=> ?_)
 .with_reducible exact⟨b,c,d,e,f,g⟩
 clear n v
 try simp only[bc,bg]
 refine aa 9 ?_;refine bZ 10 (λv n=> ?_);go_simp;skip
 try go_wp2_with fail
 try clear u
 refine n.out _ _ ?_ (λu=> ?_)
 ·(first|with_reducible exact⟨b,c,d,e,f,g⟩|((try simp only[<-World.setCell_drew]);first|with_reducible exact⟨(us (us (us (us (us b))))),(cf (cf (cf (cf (cf c))))),(cf (cf (cf (cf (cf d))))),(cf (cf (cf (cf (cf e))))),(cf (cf (cf (cf (cf f))))),(cf (cf (cf (cf (cf g)))))⟩))
 clear n v
 try simp only[bc,bg]
 refine aW (by kernel_rfl) ?_ _;refine aX ?_;clear h j i;generalize y:ag (ag (ag (ag (ag I _ _) _ _) _ _) _ _) _ _=ab at*;have r:=e8 a y;clear y;replace m:=m.kw r.kw;replace o:=o.bs r;replace p:=p.bs r;replace A:=A.kw r.kw;replace l:=l.bs r;replace a:=r.new;replace b:=b.bs r;clear r;clear c d e f g q;obtain⟨c,d,e,f,g⟩:=l.c5;have q:=a.c5;go_wp2_with fail;exact a4 (cl rfl rfl tw tx a rfl) rfl ⟨_,_,_,_,rfl,il m A,o.a,p.a,b⟩
end Go.Proofs.YtjopfpegcckllaaGreatDoor
