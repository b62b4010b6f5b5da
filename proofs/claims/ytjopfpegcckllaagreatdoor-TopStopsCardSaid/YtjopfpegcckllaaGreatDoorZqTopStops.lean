/-
  TopStops holds: solving any task that may be, of the sizes that the statement names, ends in one way alone. Conditions: the card's own (two of the library's tables are laid as its text lays them); no other.
-/
import Derived.Test.YtjopfpegcckllaaGreatDoorRows
import Derived.ProofKit
import Derived.Test.YtjopfpegcckllaaGreatDoorTie
import Derived.Test.YtjopfpegcckllaaGreatDoorCards
import Derived.OpenShut
import Derived.LaidMore
import Derived.Lay
import Derived.SevenTiedAt
import Derived.Stop.Joined
import Derived.Test.YtjopfpegcckllaaGreatDoorZqAr
set_option linter.all false
set_option maxRecDepth 100000
set_option maxHeartbeats 12800000
open Go.Proofs.Tryz
open Go renaming Value→W
open Go.IntKind renaming i64→I
open Go.Proofs.Tryz renaming prog→ae
open Go.Value renaming int→H,bool→J,slice→D,agg→af,string→al
open Option renaming some→U
namespace Go.Proofs.YtjopfpegcckllaaGreatDoor.topStops
open Go.RowKit Go.ChangeShapes Go.WideShapes Go.ChangeAt Go.Deep
open Hd (own qv)
open Rows renaming topStopsRow→HB,topStopsSpec→HC
abbrev GF:W:=af #[D none 0 0,D none 0 0,H I 0,H I 0,al ⟨#[]⟩,D none 0 0,D none 0 0,D none 0 0,D none 0 0,D none 0 0,H I 0,J false,D none 0 0,D none 0 0,J false,D none 0 0,D none 0 0,J false,D none 0 0,D none 0 0,J false,D none 0 0,D none 0 0,J false,D none 0 0,D none 0 0,H I 0,H I 0,J false,D none 0 0,D none 0 0,J false,D none 0 0,D none 0 0,J false,D none 0 0,D none 0 0,D none 0 0]
abbrev i9:List (String×DataW Unit):=HB.laid
theorem GG (os:Os):(World.laidAll ae os i9).Shaped ae:=World.shaped_of_ZipB (by kernel_rfl) (by kernel_rfl)
theorem GH (os:Os)(args:Array W):laidMetH ae i9 ((World.laidAll ae os i9).forCall (λ_ _=>0) ⟨#[],args,[]⟩).memory:=by
 rw[MakeChecks.laidMetH_plain _ _ _ (by kernel_rfl)];exact laidMet_laidAll _ (by kernel_rfl) (by kernel_rfl)
theorem lifted (os:Os)(H:os.Started)(r:Type)(enc:TypeId×W->r):
 ReturnsInHanded {} Tryz.checked os 3 .any (λw args=>(HC.pre enc ae f3 HB.domain false w args/\laidMetH ae i9 w)/\sizedMet enc ae f3 (OpenSpec.ofChange HC) false w args) (HC.post enc ae f3 false true false false):=by
 refine returnsInHanded_of_change_and (C:=Tryz.checked) (X:=λw _=>laidMetH ae i9 w) (λ_ _ _ z b=>b.of_heap z) own H (by kernel_rfl) func3
  (ChangeSpec.witness_shaped (enc:=enc) (C:=Tryz.checked) (os:=os) (X:=λw _=>laidMetH ae i9 w) false (World.laidAll ae os i9) #[GF] 8 (World.laidAll_os _ _ _) (GG os) (by kernel_rfl) (by kernel_rfl) (by kernel_rfl) (GH os _)) ?_
 intro a t args u N before j g Q _ O _;have i:∀(k:Nat) m n,f3.params[k]? =U m->args[k]? =U n->Value.okWide ae a .any t m n:=j;have x:=g;obtain⟨p,q,f,v,rfl,R,S⟩:=g;have e:DataW.TrodAll enc ae a 0 (λ_=>true) true f3.params.toList args.toList u p:=f;rw[Tryz.params3]at e i;obtain⟨o,V,K,L,F,T,P,rfl,rfl,d,G⟩:=trodAll_cons e;obtain⟨rfl,rfl,rfl⟩:=trodAll_nil G;obtain rfl:args=#[o]:=by cases args;simp_all
 obtain⟨rfl,rfl⟩:=trodVars_none v;have l:=d;have D:∀I∈F,I.block<a.heap.size:=by obtain⟨E,B⟩:=l;exact DataW.trod_lt E _ _ _ B
 obtain⟨Y,Z,rfl,s,A⟩:=EE (i 0 38 o rfl rfl) d;clear f j;refine(Gq s A).mono λM J ⟨y,up⟩=> ?_
 have c:=up.below;subst y;exact⟨_,rfl,_,_,_,[],_,[],x,trodAll_mk1 (shut_bool underlying4 _),(trodAll_cons_mk (Below.trod qv (by kernel_rfl) (of_decide_eq_true (by kernel_rfl)) l c D) trodAll_mk0),rfl,c.frame _,λb=>by cases b⟩
theorem named:ae.funcNamed HB.func=U 3:=by kernel_rfl
theorem GI:f3.isInstance ae HB.origin HB.targs:=of_decide_eq_true (by kernel_rfl)
theorem wrap:f3.isWrapper ae HB.wrapper HB.mainSum:=by unfold Func.isWrapper;first|(rw[if_pos (by decide +kernel)];kernel_rfl)|(rw[if_neg (by decide +kernel)];exact⟨rfl,rfl⟩)
theorem kZ:HB.wf (OpenSpec.ofChange HC)=true:=by kernel_rfl
theorem k3:f3.params.all (ae.readableRec ·)=true:=by kernel_rfl
theorem k4:namedTie ae HB.named HC.vars=true:=by kernel_rfl
theorem k5:(HB.inPlace==ae.inPlace 3)=true:=by kernel_rfl
theorem dr:(HB.unfollowed==ae.unfollowed 3)=true:=by kernel_rfl
theorem k8:(HB.recurses==ae.recurses 3)=true:=by kernel_rfl
theorem k9:(HB.named==ae.varsNamed 3)=true:=by kernel_rfl
theorem ld:(HB.maps==(f3.params.toList++HC.plain.varTypes ae).any (ae.mapsRec ·))=true:=by kernel_rfl
theorem lf:(HB.ifaces==(f3.params.toList++HC.plain.varTypes ae).any (ae.ifacesRec ·))=true:=by kernel_rfl
theorem lg:(HB.mapsOut==ae.mapsAmong f3.resultTypes.toList)=true:=by kernel_rfl
theorem lh:(HB.loops==(f3.params.toList++HC.plain.varTypes ae).any (ae.loopsFrom ·))=true:=by kernel_rfl
theorem li:(HB.wideKeys==(f3.params.toList++HC.plain.varTypes ae++f3.resultTypes.toList).any (ae.wideKeysFrom ·))=true:=by kernel_rfl
theorem lj:HC.vars.all (ae.varReadable ·)=true:=by kernel_rfl
theorem lk:f3.resultTypes.all (λt=>ae.readableRec t&&decide (t<ae.types.size))=true:=by kernel_rfl
theorem ll:(HB.ifacesOut==f3.resultTypes.toList.any (ae.ifacesRec ·))=true:=by kernel_rfl
theorem lm:(HB.loopsOut==f3.resultTypes.toList.any (ae.loopsFrom ·))=true:=by kernel_rfl
theorem lp:(HB.veiled==(f3.params.toList++HC.plain.varTypes ae++f3.resultTypes.toList).any (ae.veiledRec ·))=true:=by kernel_rfl
theorem lr:HB.veiledFits ae f3.params.toList (f3.params.toList++HC.plain.varTypes ae++f3.resultTypes.toList)=true:=by kernel_rfl
theorem GJ:joinedFacts ae 3 f3 HC HB=true:=
 Hd.GC kZ k3 k4 (by kernel_rfl) (by kernel_rfl) k5 dr k8 k9 ld lf lg lh li lj lk ll lm (by kernel_rfl) rfl rfl rfl rfl rfl rfl lp lr
theorem over:Rows.TopStopsSaid:=
 OpenClaim.holds_of_wide 3 f3 rfl rfl rfl rfl rfl rfl rfl ⟨rfl,rfl,rfl,rfl,rfl⟩ rfl rfl rfl rfl rfl named func3 GJ GI wrap
  (λb c a enc _=>lifted b c a enc)
theorem proved:Rows.TopStopsCardSaid:=
 Claim7.holds_tied_plain_at .later [] [.data,.pinned] true (true, "18e47f54e9b11b940e3a95c25db32ac134869e6157c965a99a98578ac041b701") false over (λ_ a=>by cases a) (by kernel_rfl) (λ_ a=>by cases a) topStops_row_tie rfl ⟨rfl,rfl⟩ (by kernel_rfl) rfl
  (λd e g i=>by
    obtain rfl:d=3:=Option.some.inj (named.symm.trans g)|>.symm;obtain rfl:e=f3:=(Option.some.inj (Tryz.func3.symm.trans i)).symm
    exact⟨by kernel_rfl,λl b c=>by
     rw[Tryz.params3]at c;have j:b∈[38]:=by simpa using Array.mem_of_getElem? c
     have f:([38].all λk=> !ae.wantsStandIn k)=true:=by kernel_rfl
     exact(show ae.wantsStandIn b=false by simpa using List.all_eq_true.1 f b j)⟩)
  (by kernel_rfl)
#print axioms proved
end Go.Proofs.YtjopfpegcckllaaGreatDoor.topStops
