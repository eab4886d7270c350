import Derived.Test.YtmaepcbnjkanhaaGreatDoorDcF8
set_option linter.unusedSimpArgs false
set_option linter.unusedVariables false
set_option maxRecDepth 4000
noncomputable section
namespace Go.Dc
open Go
abbrev OT:=Option (List ByteArray)
def ver:OT→Version_treecommute
  | Option.none=>⟨false,[]⟩
  | some l=>⟨true,l⟩
def OkO (o:OT):Prop:=∀ l,o=some l→Kl l
def lk (l:List File) (p:ByteArray):OT:=if Gp l p=true then (l[Er l p]?).map (·.Lines) else Option.none
theorem lk_some {l:List File} (h:G0 l) {p:ByteArray} {L:List ByteArray}:lk l p=some L↔(⟨p,L⟩:File)∈l:=by
  unfold lk;constructor
  · intro e;by_cases hh:Gp l p=true
    · rw [if_pos hh] at e;obtain ⟨hp,e2⟩:=has_pos h hh;rw [List.getElem?_eq_getElem hp,Option.map_some] at e;have e3:=Option.some.inj e;have hm:=List.getElem_mem hp
      have:l[Er l p]=⟨p,L⟩:=by
        generalize l[Er l p]=f at e2 e3;obtain ⟨a,b⟩:=f;simp only at e2 e3;rw [e2,e3]
      rw [this] at hm;exact hm
    · rw [if_neg hh] at e;cases e
  · intro hm;obtain ⟨hp,h1,h2⟩:=mem_has h hm;rw [if_pos h1,List.getElem?_eq_getElem hp,h2];rfl
theorem lk_none {l:List File} (h:G0 l) {p:ByteArray}:lk l p=Option.none↔Gp l p=false:=by
  unfold lk;cases hh:Gp l p
  · simp
  · rw [if_pos rfl];obtain ⟨hp,_⟩:=has_pos h hh;rw [List.getElem?_eq_getElem hp];simp
theorem Nl {l:List File} {p:ByteArray}:Gp l p=true↔∃ f∈l,f.Path=p:=by
  unfold Gp;rw [List.any_eq_true];exact ⟨fun ⟨f,h1,h2⟩=>⟨f,h1,by simpa using h2⟩,fun ⟨f,h1,h2⟩=>⟨f,h1,by simpa using h2⟩⟩
theorem lk_ok {l:List File} (h:TrOk l) (p:ByteArray):OkO (lk l p):=fun L e=>h.text _ ((lk_some h.srt).1 e)
theorem tcfind_f {l:List File} (h:TrOk l) (p:ByteArray):Gi ⟨l⟩ p=some (ver (lk l p)):=by
  have hl:=h.len;unfold Gi lk;rw [Find_f h.srt (by omega),Option.bind_some]
  simp only;cases hh:Gp l p
  · rfl
  · obtain ⟨hp,_⟩:=has_pos h.srt hh;rw [if_neg (by decide),Dg hp,Option.bind_some,if_pos rfl,List.getElem?_eq_getElem hp];rfl
theorem same_f {a b:OT} (ha:OkO a) (hb:OkO b):Gy (ver a) (ver b)=some (decide (a=b)):=by
  unfold Gy;cases a with
  | none =>
    cases b with
    | none =>
      have e:=sequal_f [] [] (by simp)
      simp [ver,e]
    | some y=>simp [ver]
  | some x =>
    cases b with
    | none=>simp [ver]
    | some y =>
      have:=(ha x rfl).1;have e:=sequal_f x y (by omega)
      simp [ver,e]
def mgO (b l r:OT):OT×Bool :=
  if r=b∨r=l then (l,true) else if l=b then (r,true) else (l,false)
theorem merged_f {b l r:OT} (hb:b=Option.none) (hl:OkO l) (hr:OkO r):Eb (ver b) (ver l) (ver r)=some (ver (mgO b l r).1,(mgO b l r).2)∧OkO (mgO b l r).1:=by
  subst hb;have hb:OkO Option.none:=fun L h=>by cases h
  unfold Eb mgO;rw [same_f hr hb,Option.bind_some,same_f hr hl,Option.bind_some];have e1:(if decide (r=Option.none)=true then some true else some (decide (r=l)))=some (decide (r=Option.none∨r=l)):=by by_cases h:r=Option.none <;> simp [h]
  rw [e1,Option.bind_some,Ba];by_cases h1:r=Option.none∨r=l
  · rw [if_pos h1,if_pos h1];exact ⟨rfl,hl⟩
  rw [if_neg h1,if_neg h1,same_f hl hb,Option.bind_some,Ba];by_cases h2:l=Option.none
  · rw [if_pos h2,if_pos h2];exact ⟨rfl,hr⟩
  rw [if_neg h2,if_neg h2];exact ⟨rfl,hl⟩
def lastF (p:TreePatch) (path:ByteArray):Int:=(Hf p path).getD (-1)
def Ee (l:List File):List ByteArray:=l.map (·.Path)
theorem prow_f (t:FileTree) (hl:t.Files.length≤1000) (acc:List ByteArray) (ha:acc.length≤10000) :
    Dw (fun s=>Bk.l2 t s.1 s.2) (0,acc)=some (acc++Ee t.Files):=by
  obtain ⟨r,e,rfl⟩:=Kw (f:=fun s=>Bk.l2 t s.1 s.2) t.Files.length (fun k x=>x=acc++Ee (t.Files.take k)) (fun x=>x=acc++Ee t.Files) (by
    rintro k x hk rfl;unfold Bk.l2;simp only;have hlen:(Ee (t.Files.take k)).length=k:=by unfold Ee;rw [List.length_map,List.length_take];omega
    refine ⟨_,?_,rfl⟩;rw [Ba,if_pos (by omega),Dg hk,Option.bind_some,K3 (by simp only [List.length_append,hlen,List.length_singleton];omega),Option.bind_some,Cs (by omega) (by omega),Option.bind_some]
    unfold Ee;rw [List.take_succ_eq_append_getElem hk,List.map_append,List.append_assoc];rfl) (by
    rintro x rfl;unfold Bk.l2;simp only;rw [Ba,if_neg (by omega),List.take_length]
    exact ⟨_,rfl,rfl⟩) acc (by simp [Ee])
  exact e
theorem all_f3 {a b c:FileTree} (ha:a.Files.length≤24) (hb:b.Files.length≤24) (hc:c.Files.length≤24):Bk [a,b,c]=some (ksort (Ee a.Files++Ee b.Files++Ee c.Files)):=by
  have la:(Ee a.Files).length≤24:=by unfold Ee;rw [List.length_map];exact ha
  have lb:(Ee b.Files).length≤24:=by unfold Ee;rw [List.length_map];exact hb
  have lc:(Ee c.Files).length≤24:=by unfold Ee;rw [List.length_map];exact hc
  have st:∀ (j:Nat) (t:FileTree) (acc:List ByteArray),j < 3→[a,b,c][j]? = some t→t.Files.length≤24→acc.length≤100→Bk.l1 [a,b,c] (j:Int) acc=some (.next ((j:Int)+1,acc++Ee t.Files)):=by
    intro j t acc hj ht hl hacc;unfold Bk.l1;rw [Ba,if_pos (by simp;omega),show at? [a,b,c] (j:Int)=some t from by unfold at?;rw [if_pos (by omega)];simpa using ht,Option.bind_some,prow_f _ (by omega) _ (by omega),Option.bind_some]
    unfold Bk.j3 Bk.j2;rw [Cs (by omega) (by omega),Option.bind_some]
  have s0:=st 0 a [] (by omega) rfl ha (by simp)
  have s1:=st 1 b (Ee a.Files) (by omega) rfl hb (by omega)
  have s2:=st 2 c (Ee a.Files++Ee b.Files) (by omega) rfl hc (by rw [List.length_append];omega)
  rw [show ((0:Nat):Int)=0 from rfl,show (0:Int)+1=1 from rfl,List.nil_append] at s0;rw [show ((1:Nat):Int)=1 from rfl,show (1:Int)+1=2 from rfl] at s1;rw [show ((2:Nat):Int)=2 from rfl,show (2:Int)+1=3 from rfl] at s2;have s3:∀ x,Bk.l1 [a,b,c] 3 x=some (.done x):=by intro x;unfold Bk.l1;rw [Ba,if_neg (by simp)]
  unfold Bk
  rw [Cp (m:=fun s:Int×List ByteArray=>Bk.l1 [a,b,c] s.1 s.2) s0,Cp (m:=fun s:Int×List ByteArray=>Bk.l1 [a,b,c] s.1 s.2) s1,Cp (m:=fun s:Int×List ByteArray=>Bk.l1 [a,b,c] s.1 s.2) s2,
    B2 (m:=fun s:Int×List ByteArray=>Bk.l1 [a,b,c] s.1 s.2) (s3 _),Option.bind_some]
  unfold Bk.j1;have hl3:(Ee a.Files++Ee b.Files++Ee c.Files).length≤72:=by rw [List.length_append,List.length_append];omega
  have hs:sortS? (Ee a.Files++Ee b.Files++Ee c.Files)=some (Nv (Ee a.Files++Ee b.Files++Ee c.Files)):=by
    unfold sortS?;rw [if_pos (by omega)]
  rw [hs,Option.bind_some,scompact_f (by rw [(sortS_perm _).length_eq];omega),Option.bind_some];rfl
theorem pathsL_mem {l:List File} {p:ByteArray}:p∈Ee l↔Gp l p=true:=by
  rw [Nl];unfold Ee;rw [List.mem_map]
section
variable (B L R : List File)
def vF (p:ByteArray):OT×Bool:=mgO (lk B p) (lk L p) (lk R p)
def outO (p:ByteArray):Option File:=match (vF B L R p).1,lk L p with
  | some v,some _=>some ⟨p,v⟩
  | _,_=>Option.none
def Ou (p:ByteArray):Option File:=match (vF B L R p).1,lk L p with
  | some v,Option.none=>some ⟨p,v⟩
  | _,_=>Option.none
def fstO (left right:TreePatch) (p:ByteArray):Option Arr2_Int:=if (vF B L R p).2=true then Option.none else some ⟨lastF left p,lastF right p⟩
end
theorem fm_snoc {α β:Type} (f:α→Option β) (l:List α) (x:α):(l++[x]).filterMap f=l.filterMap f++(f x).toList:=by
  rw [List.filterMap_append];cases h:f x <;> simp [List.filterMap,h]
theorem fm_path {f:ByteArray→Option File} (hf:∀ p x,f p=some x→x.Path=p):∀ {l:List ByteArray},SAsc l→G0 (l.filterMap f)
  | [],_=>List.Pairwise.nil
  | p::l,h=>by
    have h1:l.Pairwise fun x y=>sLt x y=true:=(List.pairwise_cons.1 h).2;have ih:=fm_path hf (l:=l) h1;cases e:f p with
    | none=>rw [List.filterMap_cons_none e];exact ih
    | some x =>
      rw [List.filterMap_cons_some e];refine List.pairwise_cons.2 ⟨fun y hy=>?_,ih⟩;obtain ⟨q,hq,hqy⟩:=List.mem_filterMap.1 hy;rw [hf p x e,hf q y hqy];exact (List.pairwise_cons.1 h).1 q hq
theorem outO_path (B L R:List File):∀ p x,outO B L R p=some x→x.Path=p:=by
  intro p x h;unfold outO at h;split at h
  · cases h;rfl
  · cases h
theorem Qk (B L R:List File):∀ p x,Ou B L R p=some x→x.Path=p:=by
  intro p x h;unfold Ou at h;split at h
  · cases h;rfl
  · cases h
theorem put_end {l:List File} (h:G0 l) (hl:l.length≤1000) {p:ByteArray} (hp:∀ f∈l,sLt f.Path p=true) {t:List ByteArray} (ht:t.length≤1000000):Ea ⟨l⟩ p t=some ⟨l++[⟨p,t⟩]⟩:=by
  have hn:Gp l p=false:=by
    cases hh:Gp l p
    · rfl
    · obtain ⟨f,hf,e⟩:=Nl.1 hh;have:=hp f hf;rw [e,Ma] at this;cases this
  rw [Put_f h hl hn ht,ins_end hp]
theorem lkn {B:List File} (h:B=[]) (p:ByteArray):lk B p=Option.none:=by subst h;rfl
theorem walk_f {B L R:List File} (hBn:B=[]) (hvt:∀ p,(vF B L R p).2=true) (hB:TrOk B) (hL:TrOk L) (hR:TrOk R) {left right:TreePatch} (hcl:∀ c∈left.Changes,OkCh c) (hll:left.Changes.length≤30) (hcr:∀ c∈right.Changes,OkCh c) (hrl:right.Changes.length≤30) {fl fr:Fault}
    {K:List ByteArray} (hK:SAsc K) (hKl:K.length≤100) (hKs:∀ p∈K,p.size≤60) :
    Dw (fun s=>Au.l3 ⟨B⟩ left right (⟨L⟩,fl) (⟨R⟩,fr) K s.1 s.2.1 s.2.2.1 s.2.2.2) (0,[],[],[])=some (K.filterMap (fstO B L R left right),K.filterMap (Ou B L R),K.filterMap (outO B L R),R):=by
  obtain ⟨r,e,rfl⟩:=Kw (f:=fun s=>Au.l3 ⟨B⟩ left right (⟨L⟩,fl) (⟨R⟩,fr) K s.1 s.2.1 s.2.2.1 s.2.2.2) K.length
    (fun k s=>s=((K.take k).filterMap (fstO B L R left right),(K.take k).filterMap (Ou B L R),(K.take k).filterMap (outO B L R)))
    (fun r=>r=(K.filterMap (fstO B L R left right),K.filterMap (Ou B L R),K.filterMap (outO B L R),R)) (by
    rintro k s hk rfl;have hsz:=hKs _ (List.getElem_mem hk);have hKt:SAsc (K.take k):=List.Pairwise.sublist (List.take_sublist _ _) hK
    have hlt:∀ q∈K.take k,sLt q K[k]=true:=by
      intro q hq;obtain ⟨j,hj,rfl⟩:=List.getElem_of_mem hq;rw [List.length_take] at hj;rw [List.getElem_take];exact (List.pairwise_iff_getElem.1 hK) j k (by omega) hk (by omega)
    have so:=fm_path (outO_path B L R) hKt;have sl:=fm_path (Qk B L R) hKt;have lo:((K.take k).filterMap (outO B L R)).length≤k:=Nat.le_trans (List.length_filterMap_le _ _) (by rw [List.length_take];omega)
    have ll:((K.take k).filterMap (Ou B L R)).length≤k:=Nat.le_trans (List.length_filterMap_le _ _) (by rw [List.length_take];omega)
    have lf:((K.take k).filterMap (fstO B L R left right)).length≤k:=Nat.le_trans (List.length_filterMap_le _ _) (by rw [List.length_take];omega)
    have po:∀ f∈(K.take k).filterMap (outO B L R),sLt f.Path K[k]=true:=by
      intro f hf;obtain ⟨q,hq,e⟩:=List.mem_filterMap.1 hf;rw [outO_path B L R q f e];exact hlt q hq
    have pl:∀ f∈(K.take k).filterMap (Ou B L R),sLt f.Path K[k]=true:=by
      intro f hf;obtain ⟨q,hq,e⟩:=List.mem_filterMap.1 hf;rw [Qk B L R q f e];exact hlt q hq
    refine ⟨_,?_,rfl⟩;rw [List.take_succ_eq_append_getElem hk,fm_snoc,fm_snoc,fm_snoc];generalize (K.take k).filterMap (outO B L R)=o at so lo po;generalize (K.take k).filterMap (Ou B L R)=lt at sl ll pl;generalize (K.take k).filterMap (fstO B L R left right)=fs at lf;obtain ⟨m1,m2⟩:=merged_f (lkn hBn K[k]) (lk_ok hL K[k]) (lk_ok hR K[k]);unfold Au.l3;simp only;rw [Ba,if_pos (by omega),Dg hk,Option.bind_some,tcfind_f hL,Option.bind_some,tcfind_f hB,Option.bind_some,tcfind_f hR,Option.bind_some,m1,Option.bind_some]
    have hj6:∀ a b c,Au.j6 (k:Int) a b c=some (.next (((k+1:Nat):Int),a,b,c)):=by
      intro a b c;unfold Au.j6;rw [Cs (by omega) (by omega),Option.bind_some];rfl
    have hv:vF B L R K[k]=mgO (lk B K[k]) (lk L K[k]) (lk R K[k]):=rfl
    have hj8:∀ a,Au.j8 (k:Int) lt o K[k] (ver (lk L K[k])) (ver (mgO (lk B K[k]) (lk L K[k]) (lk R K[k])).1,(mgO (lk B K[k]) (lk L K[k]) (lk R K[k])).2) a=some (.next (((k+1:Nat):Int),a,lt++(Ou B L R K[k]).toList,o++(outO B L R K[k]).toList)):=by
      intro a;unfold Au.j8 Ou outO;rw [hv];cases hm:(mgO (lk B K[k]) (lk L K[k]) (lk R K[k])).1 with
      | none =>
        simp [ver,hj6]
      | some v =>
        have hv2:=(m2 v hm).1;cases hlk:lk L K[k] with
        | none =>
          have e:=put_end sl (by omega) pl (t:=v) (by omega)
          simp [ver,e,hj6]
        | some w =>
          have e:=put_end so (by omega) po (t:=v) (by omega)
          simp [ver,e,hj6]
    unfold Au.j7 fstO;simp only;rw [hv];have hc:(mgO (lk B K[k]) (lk L K[k]) (lk R K[k])).2=true:=hvt K[k];rw [hc] at hj8;rw [hc,if_neg (show ¬ (!true)=true by decide),hj8]
    simp) (by
    rintro s rfl;unfold Au.l3;simp only;rw [Ba,if_neg (by omega),List.take_length]
    exact ⟨_,rfl,rfl⟩) ([],[],[]) rfl
  exact e
def ownF (R out:List File):List File:=out.filter fun x=>!Gp R x.Path
theorem own_f {R out:List File} (hR:TrOk R) (hl:out.length≤1000):Dw (fun s=>Au.l2 out R s.1 s.2) (0,[])=some (ownF R out):=by
  obtain ⟨r,e,rfl⟩:=Kw (f:=fun s=>Au.l2 out R s.1 s.2) out.length (fun k s=>s=ownF R (out.take k)) (fun r=>r=ownF R out) (by
    rintro k s hk rfl;have hlen:(ownF R (out.take k)).length≤k:=Nat.le_trans (List.length_filter_le _ _) (by rw [List.length_take];omega)
    have hj:∀ w,Au.j5 (k:Int) w=some (.next (((k+1:Nat):Int),w)):=by
      intro w;unfold Au.j5;rw [Cs (by omega) (by omega),Option.bind_some];rfl
    refine ⟨_,?_,rfl⟩
    have e:ownF R (out.take (k+1))=ownF R (out.take k)++if Gp R out[k].Path=true then [] else [out[k]]:=by
      unfold ownF;rw [List.take_succ_eq_append_getElem hk,List.filter_append];cases h:Gp R out[k].Path <;> simp [h]
    have hi:(ver (lk R out[k].Path)).is=Gp R out[k].Path:=by
      cases h:Gp R out[k].Path
      · rw [(lk_none hR.srt).2 h];rfl
      · cases h2:lk R out[k].Path with
        | none=>rw [(lk_none hR.srt).1 h2] at h;cases h
        | some v=>rfl
    unfold Au.l2;simp only;rw [Ba,if_pos (by omega),Dg hk,Option.bind_some,tcfind_f hR,Option.bind_some,hi,e]
    cases h:Gp R out[k].Path
    · rw [if_pos (show (!false)=true from rfl),K3 (by rw [List.length_singleton];omega),Option.bind_some,hj,if_neg Bool.false_ne_true]
    · rw [if_neg (show ¬ (!true)=true by decide),hj,if_pos rfl,List.append_nil]) (by
    rintro s rfl;unfold Au.l2;simp only;rw [Ba,if_neg (by omega),List.take_length]
    exact ⟨_,rfl,rfl⟩) [] rfl
  exact e
theorem clash_any {l:List File} {p:ByteArray} (hl:∀ f∈l,f.Path.size≤1000000) (hn:l.length≤1000000) (hp:p.size≤1000000):Cd l p (-1)=some (Ej l p):=by
  rw [clash_f hl hn hp];congr 1
  have key:∀ (l:List File) (k:Nat),(Gf (clG p (-1)) k l).isSome=Ej l p:=by
    intro l
    induction l with
    | nil=>intro k;rfl
    | cons f l ih =>
      intro k
      have hcl:clG p (-1) k f=if Lh f.Path p=true then some true else Option.none:=by
        unfold clG;have hk:(k:Int) ≠ -1:=by omega
        by_cases h:Lh f.Path p=true
        · rw [if_pos ⟨hk,h⟩,if_pos h]
        · rw [if_neg (fun hh=>h hh.2),if_neg h]
      rw [Gf,hcl];have:=ih (k+1);unfold Ej at this ⊢;rw [List.any_cons,← this];cases h:Lh f.Path p
      · rfl
      · rfl
  exact key l 0
def Mm (own:List File) (o:List File) (x:File):List File:=if Ej own x.Path=true then o else Qt o x
def secO (left right:TreePatch) (own:List File) (x:File):Option Arr2_Int:=if Ej own x.Path=true then some ⟨lastF left x.Path,lastF right x.Path⟩ else Option.none
theorem late_mem {own:List File}:∀ (late o:List File) (f:File),f∈late.foldl (Mm own) o↔f∈o∨(f∈late∧Ej own f.Path=false)
  | [],o,f=>by simp
  | x::late,o,f=>by
    rw [List.foldl_cons,late_mem late];unfold Mm;cases h:Ej own x.Path
    · rw [if_neg Bool.false_ne_true,Oy];constructor
      · rintro ((rfl | h1) | ⟨h1,h2⟩)
        · exact .inr ⟨List.mem_cons_self,h⟩
        · exact .inl h1
        · exact .inr ⟨List.mem_cons_of_mem _ h1,h2⟩
      · rintro (h1 | ⟨h1,h2⟩)
        · exact .inl (.inr h1)
        · rcases List.mem_cons.1 h1 with rfl | h1
          · exact .inl (.inl rfl)
          · exact .inr ⟨h1,h2⟩
    · rw [if_pos rfl];constructor
      · rintro (h1 | ⟨h1,h2⟩)
        · exact .inl h1
        · exact .inr ⟨List.mem_cons_of_mem _ h1,h2⟩
      · rintro (h1 | ⟨h1,h2⟩)
        · exact .inl h1
        · rcases List.mem_cons.1 h1 with rfl | h1
          · rw [h] at h2;cases h2
          · exact .inr ⟨h1,h2⟩
theorem late_srt {own:List File}:∀ (late o:List File),G0 o→G0 late→(∀ f∈late,Gp o f.Path=false)→G0 (late.foldl (Mm own) o)∧(late.foldl (Mm own) o).length≤o.length+late.length
  | [],o,h,_,_=>⟨h,by simp⟩
  | x::late,o,h,hl,hn=>by
    have hl1:=List.pairwise_cons.1 hl;rw [List.foldl_cons];have hx:=hn x List.mem_cons_self
    have hS:G0 (Mm own o x)∧(Mm own o x).length≤o.length+1:=by
      unfold Mm;split
      · exact ⟨h,by omega⟩
      · exact ⟨ins_srt h hx,Nat.le_of_eq (ins_len _ _)⟩
    have hn':∀ f∈late,Gp (Mm own o x) f.Path=false:=by
      intro f hf;have h1:=hn f (List.mem_cons_of_mem _ hf);unfold Mm;split
      · exact h1
      · cases hh:Gp (Qt o x) f.Path
        · rfl
        · obtain ⟨g,hg,e⟩:=Nl.1 hh;rcases Oy.1 hg with rfl | hg
          · have:=hl1.1 f hf;rw [e,Ma] at this;cases this
          · rw [Nl.2 ⟨g,hg,e⟩] at h1;cases h1
    obtain ⟨i1,i2⟩:=late_srt (own:=own) late _ hS.1 hl1.2 hn';exact ⟨i1,by rw [List.length_cons];omega⟩
theorem late_f {left right:TreePatch} {own late out:List File} (hrel:∀ x∈late,Ej own x.Path=false) (hcl:∀ c∈left.Changes,OkCh c) (hll:left.Changes.length≤30) (hcr:∀ c∈right.Changes,OkCh c) (hrl:right.Changes.length≤30)
    (ho:G0 out) (hol:out.length≤100) (hlt:G0 late) (hll2:late.length≤100) (hn:∀ f∈late,Gp out f.Path=false) (hsz:∀ f∈late,f.Path.size≤60) (htx:∀ f∈late,f.Lines.length≤1000) (hown:∀ f∈own,f.Path.size≤60) (hownl:own.length≤1000) :
    Dw (fun s=>Au.l1 left right late own s.1 s.2.1 s.2.2) (0,[],out)=some (late.filterMap (secO left right own),late.foldl (Mm own) out):=by
  obtain ⟨r,e,rfl⟩:=Kw (f:=fun s=>Au.l1 left right late own s.1 s.2.1 s.2.2) late.length
    (fun k s=>s=((late.take k).filterMap (secO left right own),(late.take k).foldl (Mm own) out)) (fun r=>r=(late.filterMap (secO left right own),late.foldl (Mm own) out)) (by
    rintro k s hk rfl;have hx:=List.getElem_mem hk;have hs:=hsz _ hx;obtain ⟨q1,q2⟩:=late_srt (own:=own) (late.take k) out ho (List.Pairwise.sublist (List.take_sublist _ _) hlt) fun f hf=>hn f (List.mem_of_mem_take hf);rw [List.length_take] at q2;have q3:((late.take k).foldl (Mm own) out).length≤1000:=by omega
    have hno:Gp ((late.take k).foldl (Mm own) out) late[k].Path=false:=by
      cases hh:Gp ((late.take k).foldl (Mm own) out) late[k].Path
      · rfl
      · obtain ⟨g,hg,e⟩:=Nl.1 hh;rcases (late_mem _ _ _).1 hg with h1 | ⟨h1,_⟩
        · have:=hn _ hx;rw [Nl.2 ⟨g,h1,e⟩] at this;cases this
        · obtain ⟨j,hj,rfl⟩:=List.getElem_of_mem h1;rw [List.length_take] at hj;rw [List.getElem_take] at e;have:=(List.pairwise_iff_getElem.1 hlt) j k (by omega) hk (by omega)
          rw [e,Ma] at this;cases this
    have ls:((late.take k).filterMap (secO left right own)).length≤k:=Nat.le_trans (List.length_filterMap_le _ _) (by rw [List.length_take];omega)
    have hj:∀ a b,Au.j4 (k:Int) a b=some (.next (((k+1:Nat):Int),a,b)):=by
      intro a b;unfold Au.j4;rw [Cs (by omega) (by omega),Option.bind_some];rfl
    refine ⟨_,?_,rfl⟩;rw [List.take_succ_eq_append_getElem hk,fm_snoc,List.foldl_append];unfold Au.l1;simp only [List.foldl_cons,List.foldl_nil];rw [Ba,if_pos (by omega),Dg hk,Option.bind_some,clash_any (fun f hf=>by have:=hown f hf;omega) (by omega) (by omega),Option.bind_some]
    have h:=hrel _ hx;rw [h];have e1:secO left right own late[k]=Option.none:=by unfold secO;rw [h];rfl
    have e2:∀ o,Mm own o late[k]=Qt o late[k]:=fun o=>by unfold Mm;rw [h];rfl
    rw [if_neg Bool.false_ne_true,Put_f q1 q3 hno (Nat.le_trans (htx _ hx) (by decide)),Option.bind_some,hj,e1,e2]
    simp) (by
    rintro s rfl;unfold Au.l1;simp only;rw [Ba,if_neg (by omega),List.take_length]
    exact ⟨_,rfl,rfl⟩) ([],out) rfl
  exact e
end Go.Dc
